/-
  Own texts on the laws of the seat, joined: the logic, and contracts of functions. Conditions: none.
-/
import Derived.Test.YtekmeaoblpfnpaaGreatDoorNmN
import Derived.Test.YtekmeaoblpfnpaaGreatDoorPN8
set_option linter.all false
set_option maxRecDepth 100000
set_option maxHeartbeats 40000000
open List renaming length_take -> aA,length_append -> aC,take_of_length_le -> aG,length_map -> aH,length_cons -> aI,append_nil -> aN,getElem?_eq_some_iff -> aO,mem_map -> aP,length_drop -> aQ,mem_of_mem_drop -> aV,take_succ_eq_append_getElem -> aX,mem_of_mem_take -> bD,mem_map_of_mem -> bH,flatMap_append -> bI,map_map -> bK,pairwise_iff_forall_sublist -> bU,length_singleton -> bW,perm_append_comm -> bY,mem_filter -> cZ,mem_append -> dD,getD_cons_zero -> dG,getD_cons_succ -> dH,nodup_iff_pairwise_ne -> dM,pairwise_map -> dP,map_append -> dU,length_nil -> dX,length_filter_le -> dZ,mem_append_right -> eH,mem_append_left -> eU,map_cons -> eY,getD_nil -> fA,take_succ_cons -> fB,filter_append -> fD,mem_singleton -> fG,flatMap -> fH,getElem?_take -> fK,getElem?_map -> fQ,map_take -> gX
open Go.Proofs.Tryz renaming prog -> aB
open Ix renaming oI -> aF,keyOf -> aK,b4f -> bV,Rec -> cO,oC -> dI,AU -> dK,KC -> dS,oG -> fC,cnt -> fE,nM -> fF,scan -> fM,Pl -> fZ,vals -> gI,rC -> gW
open Ke renaming up -> aJ,digit -> aU,okb -> bF,val -> bM,MN -> bT,digits -> bZ,nb -> dF,MV -> dY,DK -> fJ,OM -> fP,UN -> gU
open Nat renaming le_refl -> aS,min_eq_right -> aW,zero_le -> bQ,min_eq_left -> dV,min_le_left -> dW
open Go.Sx.J renaming ev -> aT,z -> bJ,op -> dN
open Int renaming natCast_mul -> aY
open Go.Sx.Ej renaming round -> aZ,keep -> bP,keepR -> fV,perm -> gK,CG -> gQ
open Go.Sx.Keeps renaming d -> bC,r -> dJ,k -> dR
open UInt8 renaming ofNat -> bG,toNat_inj -> gG
open Go.Sx.jO renaming toPure -> dA
open Go.Sx.Cj renaming qC -> dB,loop -> eG
open Go.Value renaming int -> dL,oneCell' -> gJ
open Classical renaming byContradiction -> dQ
open Go.Sx.jV renaming ET -> eF,AZ -> eP
open Bool renaming true_and -> eX
open Go.Sx.Src renaming row -> fO
open Prod renaming ext -> fU
open Go.Sx.JA renaming zt -> gB
section
namespace Go.Proofs.YtekmeaoblpfnpaaGreatDoor
open _root_.Go.Proofs.Tryz
open Go Go.Sx
theorem b5m{I L t xs}(A:vO I xs ((Ix.qL L t).getD []))(h:xs.find? (fun x=>decide (x.1.name=gW))=none):fC L t=[]:=by
 rw[RX,←A.1,a2Y,h];rfl
theorem b5b{I L t xs x}(A:vO I xs ((Ix.qL L t).getD []))(h:xs.find? (fun x=>decide (x.1.name=gW))=some x):fC L t=x.1.key:=by
 rw[RX,←A.1,a2Y,h];rfl
abbrev isT (x:VW):Bool:=decide (x.1.name=gW)
abbrev lY (x:List UInt8×Nat):List UInt8×Int:=(x.1,(x.2:Int))
abbrev a8R (l:List (List UInt8×Nat)) (v:Value) (H:HL):Prop:=zU 268 oP (l.map lY) v H
def BZ (n b:List UInt8) (p:fZ):Bool:=decide (p.1=n) && !decide (p.2<b)
def yV (L:Ix.Ix) (n b:List UInt8) (vis:ML fZ):List (List UInt8×Nat):=(vis.filter fun x=>BZ n b x.1).map fun x=>(x.1.2,(dI L n x.1.2).length)
theorem tZ L n b vis x:yV L n b (vis++[x])=yV L n b vis++if BZ n b x.1=true then[(x.1.2,(dI L n x.1.2).length)]else[]:=by
 unfold yV;rw[fD,dU]
 by_cases h:BZ n b x.1=true
 ·rw[zF h];simp[h]
 rw[zD h];simp[h]
theorem b5X L n b vis:(yV L n b vis).length≤vis.length:=by
 unfold yV;rw[aH];exact dZ _ _
structure TB where
  vis:ML Ix.Pl
  rest:ML Ix.Pl
  g:Gs
theorem b6j{I:Heap}{b l c N f}(h:kZ l c N f)(O:∀q∈setH b l c N,I q.1=some q.2){x}(Q:x∈l):∃A m k,x.2.1= .map (some A)∧I A=some (kD jY m k)∧MS m k∧m≠[]∧∀t,kE m t=cv (f x.1 t):=by
 have h1:kvp x∈N.map nvp:=by rw[←h.vals];exact bH Q
 obtain⟨⟨a,A,m,k⟩,G,M⟩:=aP.1 h1;have S:a=x.1:=zC (·.1) M;have W:Value.map (some A)=x.2.1:=zC (·.2) M;subst S;obtain⟨Z,g2,g3⟩:=h.inn _ G;exact⟨A,m,k,W.symm,O (A,_) (.tail _ (aP.2 ⟨_,G,rfl⟩)),Z,g2,g3⟩
theorem a6t{l:ML fZ}{c:Nat}{N:wO fZ cO}{f:fZ→cO→Nat}(h:kZ l c N f)(p:fZ):p∈l.map (·.1)↔∃t,f p t≠0:=by
 rw[h.keys];constructor
 ·intro A;obtain⟨e,G,rfl⟩:=aP.1 A;obtain⟨_,M,O⟩:=h.inn e G;obtain⟨⟨t,v,n⟩,r,Q⟩:=List.exists_cons_of_ne_nil M;refine⟨t,fun S=>?_⟩;have h2:=O t;rw[S]at h2;have h3:kE e.2.2.1 t=none:=h2;exact pF.1 h3 (by rw[Q];exact .head _)
 rintro⟨t,W⟩;exact dQ fun g=>W (h.out p g t)
theorem keys_le{L l c N}(h:kZ l c N (fE dS L))(Q:fF L)(S:L.length≤100000)(W:∀e∈L,qE e.2):l.length≤1000000000000:=by
 have h1:(l.map (·.1)).length≤(L.flatMap fun e=>dS e.2).length:=by
  refine OC h.ms.1 fun p Z=>?_;obtain⟨e,A,G⟩:=(Ix.LC Q).1 ((a6t h p).1 Z);exact List.mem_flatMap.2 ⟨e,A,G⟩
 have h2:∀M:Ix.Ix,(∀e∈M,qE e.2)→(M.flatMap fun e=>dS e.2).length≤M.length*10000000:=by
  intro M
  induction M with
  |nil=>intro _;simp
  |cons a r ih=>
   intro O;have:=ih fun e A=>O e (.tail _ A);have h3:=(O a (.head _)).k;rw[List.flatMap_cons,aC,aI,Nat.add_mul];omega
 rw[aH]at h1;exact nO (nO h1 (h2 L W)) (Nat.mul_le_mul_right 10000000 S)
theorem a4a{a b:List UInt8}(h:¬b<a)(A:a≠b):a<b:=Std.lt_of_le_of_ne (Std.not_lt.1 h) A
theorem b2L{L l c N}(h:kZ l c N (fE dS L))(hs:fF L){n b vis}(W:vis.Perm l){ls}(S:ls.Perm ((yV L n b vis).map lY))(ho:ls.Pairwise fun p q=>¬q.1<p.1):ls=((Ix.mJ L n b).map fun k=>(k,(dI L n k).length)).map lY:=by
 have G:∀x∈vis.filter (fun x=>BZ n b x.1),x.1.1=n∧¬x.1.2<b:=fun x A=>by
  have:=(cZ.1 A).2;unfold BZ at this;rw[Bool.and_eq_true,zG,Bool.not_eq_true',decide_eq_false_iff_not]at this;exact this
 have a1:((yV L n b vis).map (·.1)).Nodup:=by
  unfold yV;rw[bK];have h1:((vis.filter fun x=>BZ n b x.1).map (·.1)).Nodup:=((W.map _).nodup_iff.2 h.ms.1).sublist (List.filter_sublist.map _);rw[dM,dP]at h1 ⊢;refine(bU.2 fun {x y} M=>?_);have A:=G x (M.subset (.head _));have O:=G y (M.subset (.tail _ (.head _)));have a2:=bU.1 h1 M;exact fun e=>a2 (fU (A.1.trans O.1.symm) e)
 have Q:∀x∈ls,x.2=((dI L n x.1).length:Int):=fun x A=>by
  obtain⟨y,O,rfl⟩:=aP.1 (S.mem_iff.1 A);obtain⟨z,_,rfl⟩:=aP.1 O;rfl
 have hk:(ls.map (·.1)).Perm ((yV L n b vis).map (·.1)):=by
  have:=S.map (·.1)
  rwa [bK]at this
 have Z:Ke.Inc (ls.map (·.1)):=by
  unfold Ke.Inc;have h1:=hk.nodup_iff.2 a1;rw[dM,dP]at h1;rw[dP];exact(List.pairwise_and_iff.2 ⟨ho,h1⟩).imp fun {x y} ⟨h2,h3⟩=>a4a h2 h3
 have a0:=Ix.yR hs (n:=n) (b:=b) (ls:=ls.map fun x=>(x.1,x.2.toNat)) (by rw[bK];exact Z) (fun k=>?_) (fun x A=>?_)
 ·rw[←a0,bK]
  conv=>lhs;rw[←List.map_id ls]
  refine List.map_congr_left fun x A=>?_;have:=Q x A;show x=(x.1,((x.2.toNat:Nat):Int));refine fU rfl ?_;show x.2=_;omega
 ·rw[bK];show k∈ls.map (·.1)↔_;rw[hk.mem_iff,←a6t h];unfold yV;rw[bK];constructor
  ·intro hm;obtain⟨x,A,rfl⟩:=aP.1 hm;obtain⟨h1,h2⟩:=G x A;refine⟨h2,?_⟩;show(n,x.1.2)∈_;rw[←h1,←(W.map (·.1)).mem_iff];exact bH (cZ.1 A).1
  rintro⟨h1,h2⟩;rw[←(W.map (·.1)).mem_iff]at h2;obtain⟨x,A,he⟩:=aP.1 h2;refine aP.2 ⟨x,cZ.2 ⟨A,?_⟩,?_⟩
  ·unfold BZ;rw[he,zH rfl,eX,zI h1];rfl
  show x.1.2=k;rw[he]
 obtain⟨y,O,rfl⟩:=aP.1 A;have:=Q y O;show y.2.toNat=_;rw[this];rfl
theorem b1i ib mb m k0 wm km L t I (a2:qE ((Ix.qL L t).getD []))(a3:I ib=some (jM 114 [.map (some mb),.map wm,.map km]))(Z:I mb=some (kD jY m k0))(ab:MS m k0)(a4:zZ I m L):Pure aB 28 [ptr ib 0,jY t] I (str (fC L t)):=by
 refine dA ?_;obtain⟨vv,M,xs,N,O⟩:=a4.at t;have ac:=O.len;have ad:=a2.1;refine jT func28 fun w0 _=>?_;refine jL 3 ?_;intro _ _;refine jL 14 ?_;refine dB [0] [] 8 kR ?_;have aa:=a3;have W:=Z;refine jL 5 ?_;refine gB 5 rfl (kN (kv:=jY) (l:=m) (a:=t) rfl rfl rfl rfl xE mX FK (eP W)) ?_;refine JA.ev 13 vv rfl M ?_;refine kC (EN xs _ isT _ [] oM _ N.row O.2 (fun x hx=>by obtain⟨p9,c9,G⟩:=qG (O.2 x hx);exact b3e x p9 _ c9 G _)) ?_;refine jR ?_ ?_<;>intro Q a0
 ·have A:xs.find? isT=none:=((uM isT xs).resolve_right (fun⟨k,x,h,_⟩=>by have G:=mD Q;rw[h]at G;omega)).2;refine kF ?_;rw[b5m O A];exact rT
 obtain⟨k,x,a5,S,A⟩:=(uM isT xs).resolve_left (fun h=>by have G:=nI Q;rw[h.1]at G;exact G dE);have a1:=(aO.1 S).1;obtain⟨_,a6,a7,_,a8⟩:=id N;rw[a7]at M ⊢;obtain⟨rb,_,rfl,a9⟩:=a8 (jS a1);rw[a5];refine jL 3 ?_;refine dB [0] [] 11 kR ?_;refine jL 5 ?_;refine gB 5 rfl (kN (kv:=jY) (l:=m) (a:=t) rfl rfl rfl rfl xE mX FK (eP Z)) ?_;refine JA.ev 22 (.slice (some ⟨rb,0,none⟩) xs.length a6) rfl M ?_;refine kH (0+k*3) ?_;refine gB 8 rfl (q2 (off':=0+k*3+1) JV kW) ?_;refine gB 9 rfl (jP rfl rfl lM (eP a9) (lU GL (o:=0) rfl S 1 dE)) ?_;refine kF ?_;rw[b5b O A];exact rT
theorem b1u G O Q t I (M:I G=some (jM 114 [.map none,.map O,.map Q])):Pure aB 28 [ptr G 0,jY t] I (str []):=by
 refine dA ?_;refine jT func28 fun w0 _=>?_;refine jL 3 ?_;intro _ _;refine jL 14 ?_;refine dB [0] [] 8 kR ?_;have N:=M;refine jL 5 ?_;refine gB 5 rfl (qK (kv:=jY) (a:=t) rfl rfl rfl rfl xE mX FK) ?_;refine kC (EN [] _ isT _ [] dE _ jU.nil (fun x A=>by cases A) (fun x A=>by cases A)) ?_;refine jL 1 ?_;refine JA.ev 14 (i64 (-1)) rfl rfl ?_;refine kF ?_;exact rT
theorem b1H A L t I (G:zX I A L):Pure aB 28 [ptr A 0,jY t] I (str (fC L t)):=by
 obtain⟨_,M,N,O,W,-,-⟩:=G.parts;rcases W with⟨rfl,rfl⟩|⟨b,l,c,rfl,Q,S,Z⟩
 ·exact b1u A M N t I O
 exact b1i A b l c M N L t I (a2y G t) O Z Q S
theorem a6H a n c (A:n≤c) I:Pure aB 222 [.slice a n c] I (.slice a n n):=by
 refine dA ?_;refine jT func222 fun w0 _=>?_;refine jL 12 ?_;refine bJ (a8W (k:=n) (m:=n) rfl rfl rfl rfl AB BD (aS _) A) ?_;refine jW ?_;exact rT
theorem b6S{α:Type}{T:TypeId}{f:α→List Value}{l:List α}{v:Value}{H:HL}(h:zU T f l v H):∃a c,v= .slice a l.length c∧l.length≤c:=by
 rcases h with⟨rfl,rfl,rfl⟩|⟨b,c,sp,rfl,A,rfl⟩
 ·exact⟨none,0,rfl,aS _⟩
 exact⟨_,c,rfl,A⟩
theorem b3u{α:Type}{T:TypeId}{f:α→List Value}{l:List α}{a:Option Addr}{c:Nat}{H:HL}(h:zU T f l (.slice a l.length c) H){k:Nat}(G:k≤l.length):zU T f (l.take k) (.slice a k k) H:=by
 rcases h with⟨rfl,A,rfl⟩|⟨b,c,sp,A,M,rfl⟩
 ·cases A;have:k=0:=by simpa using G
  subst this;exact .inl rT
 cases A;refine .inr ⟨b,k,(l.drop k).flatMap f++sp,by rw[aA,dV G],by rw[aA];omega,?_⟩;rw[←List.append_assoc,←bI,List.take_append_drop]
theorem b1T{L n s A ls a c v H}(G:ls=((Ix.mJ L n (aK n s)).map fun k=>(k,(dI L n k).length)).map lY)(h:zU 268 oP ls v H)(M:v= .slice a ls.length c):a8R (fM L n s A) (.slice a (min ls.length A.toNat) (min ls.length A.toNat)) H:=by
 subst M;have h1:=b3u h (dW ls.length A.toNat);have h2:ls.take (min ls.length A.toNat)=(fM L n s A).map lY:=by
  rw[←Ix.a1r,gX,←G];rcases Nat.le_total ls.length A.toNat with g|g
  ·rw[dV g,List.take_length,aG g]
  rw[aW g]
 rw[h2]at h1;exact h1
theorem b5N{L}(G:fF L){m k}(M:MS m k){p}(A:∀t,kE m t=cv (fE dS L p t)){n}(N:p.1=n):((m.length:Nat):Int)=((dI L n p.2).length:Int):=by
 subst N;have h:=Ix.b3h G (n:=p.1) (k:=p.2) (ts:=m.map (·.1)) M.1 fun t=>by
  constructor
  ·intro h1;have h2:kE m t≠none:=fun g=>pF.1 g h1;rw[A]at h2;exact fun g=>h2 (by rw[show fE dS L p t=0 from g];rfl)
  intro h1;refine dQ fun g=>?_;have h2:=pF.2 g;rw[A,b0T h1]at h2;cases h2
 rw[aH]at h;rw[h]
theorem a9Y(n:Nat) A:(if (if (0:Int)>A then(0:Int)else A)<(n:Int)then(if (0:Int)>A then(0:Int)else A)else(n:Int))=((min n A.toNat:Nat):Int):=by
 repeat(first|omega|split)
theorem a9q ib kb vm wm l c N L n s (hs:s.length≤100000000) G I (Q:fF L)(S:kZ l c N (fE dS L))(ao:l.length≤1000000000000)(aq:I ib=some (jM 114 [.map vm,.map wm,.map (some kb)]))(hI:∀q∈setH kb l c N,I q.1=some q.2):jO aB 160 [ptr ib 0,str n,str s,i64 G] I [] (fun e _ H'=>∃v,e= .returned v∧a8R (fM L n s G) v H'):=by
 have W:I kb=some (kD nC l c):=hI (kb,_) (.head _);refine jT func160 fun w0 _=>?_;refine kC (WM n s hs _) ?_;refine jL 15 ?_;refine dN rfl (vG (kv:=nC) (l:=l) rfl rfl rfl rfl pV (eF W) ?_);intro b2 _;refine jL 3 ?_;refine eG (ι:=TB) (fun y=>(y.vis++y.rest).Perm l∧kY w0.heap.size 2 (yV L n (aK n s) y.vis).length (((yV L n (aK n s) y.vis).map lY).flatMap oP) y.g) (fun y=>y.rest.length) (fun y=>[(1,str n),(3,i64 G),(9,str (aK n s)),(10,gV (yV L n (aK n s) y.vis).length y.g),(22,ptr b2 0)]) (fun y=>_) (fun y=>(b2,DN kb c y.vis c)::gH 268 (((yV L n (aK n s) y.vis).map lY).flatMap oP) y.g) ⟨[],l,none⟩ ⟨.refl _,rfl,rfl⟩ rT rfl rfl ?_;rintro⟨vis,rest,g⟩ ⟨Z,hg⟩;dsimp only at Z hg ⊢;have ab:=Z.length_eq;rw[aC]at ab;have ap:=b5X L n (aK n s) vis;refine jL 2 ?_;refine dN rfl (xK (kv:=nC) (l:=l) 0 rfl rfl rfl rfl rfl (eF W) S.ms.2.2 (aS _) S.ms.2.1 Z ?_ ?_)
 ·rintro x M H9 a0 O ⟨-,hset⟩;simp only[List.set_cons_zero,List.set_cons_succ]at hset;subst hset;obtain⟨mb,m,k,ae,af,ag,_,ah⟩:=b6j S hI (O.mem_iff.1 (eU _ (eH _ (.head _))));refine jL 10 ?_;refine bJ (BU (kv:=nC) (l:=l) rfl rfl (jV.at 0 rfl) (eF W) (O.mem_iff.1 (eU _ (eH _ (.head _)))) S.ms.2.1) ?_;refine jL 2 ?_;refine aT 27 (.map (some mb)) rfl ae ?_;refine jL 1 ?_;intro _ _;refine mV ?_ ?_<;>intro a1 ac
  ·have a2:x.1.1=n:=lN a1;refine jL 3 ?_;refine J.zg (a1i rfl rfl rfl) ?_;refine mP ?_ ?_<;>intro a3
   ·have A:BZ n (aK n s) x.1=true:=by unfold BZ;rw[zH a2,eX];exact a3
    refine jL 5 ?_;refine bJ (yX (kv:=jY) (l:=m) rfl rfl oH (eF af)) ?_;refine aT 42 (i64 ((dI L n x.1.2).length:Int)) rfl (zC i64 (b5N Q ag ah a2)) ?_;refine bJ (jX (pl:= #[(0,1),(1,1)]) rfl rfl UA rfl b4n (fun w=>by simp[oL,kW]) (pX.part rfl rfl rfl (nX.c nX.z) (pX.part rfl rfl rfl (nX.s (nX.c nX.z)) pX.none))) ?_;refine dN rfl (q6 AB BD UA (vV.agg rfl vV.none) ?_);intro _ _;refine dN rfl (kK (by':=23) [_,_,_] rfl rfl rfl rfl rfl AB (.inr ⟨_,AB⟩) (by kernel_rfl) BD UA rfl hg rfl (Src.slice (jV.at 0 rfl) rfl rfl rfl) (by omega) ?_);intro g8 ai;refine jL 3 ?_;refine bP (bC (bC (dR dJ))) ?_;refine aZ ⟨vis++[x],M,g8⟩ ⟨O,by dsimp only;rw[tZ,zF A,aC,dU,bI];exact ai⟩ (by have h:=a0.length_eq;simp only[aI]at h;dsimp only;omega) ⟨rfl,rfl,rfl,by dsimp only;rw[tZ,zF A,aC];rfl,rfl,trivial⟩ rfl (by dsimp only;rw[tZ,zF A,dU,bI];rfl)
   have A:¬BZ n (aK n s) x.1=true:=by unfold BZ;rw[zH a2,eX];exact fun e=>Bool.noConfusion (e.symm.trans a3)
   refine jL 2 ?_;refine bP (bC (dR dJ)) ?_;refine aZ ⟨vis++[x],M,g⟩ ⟨O,by dsimp only;rw[tZ,zD A,aN];exact hg⟩ (by have h:=a0.length_eq;simp only[aI]at h;dsimp only;omega) ⟨rfl,rfl,rfl,by dsimp only;rw[tZ,zD A,aN];rfl,rfl,trivial⟩ rfl (by dsimp only;rw[tZ,zD A,aN])
  have A:¬BZ n (aK n s) x.1=true:=by unfold BZ;rw[zI (lX a1)];exact Bool.false_ne_true
  refine jL 10 ?_;refine bP (bC (dR dJ)) ?_;refine aZ ⟨vis++[x],M,g⟩ ⟨O,by dsimp only;rw[tZ,zD A,aN];exact hg⟩ (by have h:=a0.length_eq;simp only[aI]at h;dsimp only;omega) ⟨rfl,rfl,rfl,by dsimp only;rw[tZ,zD A,aN];rfl,rfl,trivial⟩ rfl (by dsimp only;rw[tZ,zD A,aN])
 intro ad;refine jL 11 ?_;have aj:vis.Perm l:=by rw[ad,aN]at Z;exact Z
 have a6:kY w0.heap.size 2 ((yV L n (aK n s) vis).map lY).length (((yV L n (aK n s) vis).map lY).flatMap oP) g:=by rw[aH];exact hg
 refine jL 2 ?_;refine aT 46 (gV ((yV L n (aK n s) vis).map lY).length g) rfl (by rw[aH]) ?_;refine DY [_] (WA ((yV L n (aK n s) vis).map lY) g a6 (by rw[aH];omega) _) ?_;rintro _ _ H9 _ ⟨ls,a7,al,h,rfl⟩;cases h;have am:=b2L S Q aj a7 al;have a4:((yV L n (aK n s) vis).map lY).length=ls.length:=a7.length_eq.symm;have an:kY w0.heap.size 2 ls.length (ls.flatMap oP) g:=by rw[←a4];exact LZ a6 (by rw[lQ pG,lQ pG,a4])
 refine jL 3 ?_;obtain⟨a5⟩:Nonempty (zU 268 oP ls (gV ls.length g) (gH 268 (ls.flatMap oP) g)):=⟨zU.b6N pG (by decide) rfl an⟩;obtain⟨sa,sc,a8,a9⟩:∃a c,gV ls.length g= .slice a ls.length c∧ls.length≤c:=b6S a5;have aa:gV (yV L n (aK n s) vis).length g= .slice sa ls.length sc:=by rw[←a8,←a4,aH]
 refine jL 2 ?_;refine aT 48 (.slice sa ls.length sc) rfl aa ?_;refine jL 1 ?_;refine aT 49 (.slice sa ls.length sc) rfl aa ?_;refine jL 2 ?_;refine bJ (rO rfl rfl rfl) ?_;refine bJ (rJ rfl rfl rfl) ?_;refine aT 53 (i64 ((min ls.length G.toNat:Nat):Int)) rfl (zC i64 (a9Y _ _)) ?_;refine bJ (qB (k:=(min ls.length G.toNat)) rfl rfl rfl AB BD rfl (nO (dW _ _) a9)) ?_;refine kC (a6H sa (min ls.length G.toNat) sc (nO (dW _ _) a9) _) ?_;refine jL 4 ?_;refine bP (H':=gH 268 (ls.flatMap oP) g) (List.sublist_append_right [_] _) ?_;refine jW ?_;exact⟨_,rfl,b1T am a5 a8⟩
theorem a9v G O Q n s (S:s.length≤100000000) A I (W:I G=some (jM 114 [.map O,.map Q,.map none])):jO aB 160 [ptr G 0,str n,str s,i64 A] I [] (fun e _ H'=>e= .returned (.slice none 0 0)∧H'=[]):=by
 refine jT func160 fun w0 _=>?_;refine kC (WM n s S _) ?_;refine jL 15 ?_;refine dN rfl (sG rfl rfl rfl rfl pV ?_);intro _ _;refine jL 3 ?_;refine Cj.rounds 1 ?_;refine Rj.succ ?_;refine jL 2 ?_;refine dN rfl (uJ 0 rfl rfl rfl rfl rfl ?_);refine DY [_] (WA (base:=0) [] none rT dE _) ?_;rintro _ _ _ _ ⟨ts,M,_,h,rfl⟩;cases h;have N:=M.eq_nil;subst N;refine jL 8 ?_;refine bJ (rO rfl rfl rfl) ?_;refine bJ (rJ rfl rfl rfl) ?_;refine aT 53 (i64 ((0:Nat):Int)) rfl (zC i64 (a9Y 0 A |>.trans (by rw[Nat.zero_min]))) ?_;refine bJ (qB (k:=0) rfl rfl rfl AB BD rfl (aS _)) ?_;refine kC (a6H none 0 0 (aS _) _) ?_;refine kF ?_;exact rT
theorem a8U{L}(G:fF L)(M:∀p t,fE dS L p t=0) n s A:fM L n s A=[]:=by
 have h:=Ix.yR G (n:=n) (b:=aK n s) (ls:=[]) List.Pairwise.nil (fun k=>⟨fun h=>(by cases h),fun⟨_,t,N⟩=>absurd (M _ t) N⟩) (fun x O=>by cases O);rw[←Ix.a1r,←h,List.take_nil]
theorem b6l M L n s (O:s.length≤100000000) A I (G:zX I M L):jO aB 160 [ptr M 0,str n,str s,i64 A] I [] (fun e _ H'=>∃v,e= .returned v∧a8R (fM L n s A) v H'):=by
 obtain⟨Q,S,_,W,-,-,hK⟩:=G.parts;have hv:∀e∈L,qE e.2:=by
  obtain⟨o,h1,_⟩:=G;cases o with
  |none=>rw[show L=[] from h1];intro e he;cases he
  |some s=>exact nY.VZ h1
 rcases hK with⟨rfl,hz⟩|⟨b,l,c,N,rfl,Z,hq⟩
 ·rw[a8U G.pR hz];exact(a9v M Q S n s O A I W).mono fun e _ H' _ ⟨h1,h2⟩=>⟨_,h1,.inl ⟨rfl,rfl,h2⟩⟩
 exact a9q M b Q S l c N L n s O A I G.pR Z (keys_le Z G.pR G.big hv) W hq
theorem b2B n s (M:s.length≤100000000) I:jO aB 32 [.pointer none,str n,str s] I [] (fun e _ H'=>e= .returned (.slice none 0 0)∧H'=[]):=by
 refine jT func32 fun w0 _=>?_;refine kJ (yT s oM _) ?_;intro _ _ _ _ A;obtain⟨_,h,G,rfl⟩:=A;cases h;obtain⟨wp,_,rfl⟩:=qG G;refine jW ?_;exact rT
theorem a7X n s (M:s.length≤100000000) I:jO aB 33 [.pointer none,str n,str s] I [] (fun e _ H'=>e= .returned (.slice none 0 0)∧H'=[]):=by
 refine jT func33 fun w0 _=>?_;refine jL 3 ?_;intro _ _;refine jL 1 ?_;intro _ _;refine kJ (yT s oM _) ?_;intro _ _ _ _ A;obtain⟨_,h,G,rfl⟩:=A;cases h;obtain⟨wp,_,rfl⟩:=qG G;refine jL 1 ?_;intro _ _;refine kF ?_;exact rT
theorem b4u n s I:jO aB 34 [.pointer none,str n,str s] I [] (fun e _ H'=>e= .returned (.slice none 0 0)∧H'=[]):=by
 refine jT func34 fun w0 _=>?_;refine jW ?_;exact rT
theorem b3v n s A I:jO aB 160 [.pointer none,str n,str s,i64 A] I [] (fun e _ H'=>e= .returned (.slice none 0 0)∧H'=[]):=by
 refine jT func160 fun w0 _=>?_;refine jW ?_;exact rT
theorem b1V t I:Pure aB 28 [.pointer none,jY t] I (str []):=by
 refine dA ?_;refine jT func28 fun w0 _=>?_;refine jL 3 ?_;intro _ _;refine kF ?_;exact rT
abbrev jQ (e:nH):cO×List Ix.V:=(e.t,gI e.fs)
theorem ZO{es:List nH}{i e}(h:es[i]?=some e):bV ((es.take (i+1)).map jQ) []=Ix.sD e.t (gI e.fs) (bV ((es.take i).map jQ) []):=by
 rw[yP jQ h];unfold bV;rw[List.foldl_append];rfl
def nP (I:Heap) (es:List nH) (v:Value):Prop:=jU oD I es v∧∀e∈es,xX I e.fs e.v
theorem nP.mono{I G es v}(h:nP I es v)(A:Le I G):nP G es v:=⟨h.1.mono A,fun e M=>(h.2 e M).mono A⟩
structure BA where
  i:Nat
  J:Heap
  o:Option Ist
theorem a0O{e p n c}(h:e.v= .slice p n c):(oD e).all gJ=true:=by unfold oD;rw[h];rfl
theorem b2w es v (ab:es.length≤1000)(a5:∀e∈es,yF e.fs) I (Z:nP I es v):jO aB 48 [v] I [] (fun e I' H'=>∃ib o,e= .returned (ptr ib 0)∧vK I' o (bV (es.map jQ) [])∧H'=QU ib o):=by
 obtain⟨p,c,rfl,_,-⟩:=id Z.1;refine jT func48 fun w0 _=>?_;refine jL 7 ?_;refine bJ (jX (pl:= #[(0,1),(1,1),(2,1)]) rfl rfl zeroValue114 rfl JD (fun w=>by simp[EW,FV]) pX.none) ?_;refine jL 1 ?_;intro b1 _;refine jL 12 ?_;refine eG (ι:=BA) (fun y=>y.i≤es.length∧Le I y.J∧vK y.J y.o (bV ((es.take y.i).map jQ) [])∧(bV ((es.take y.i).map jQ) []).length≤y.i) (fun y=>es.length-y.i) (fun y=>[(3,ptr b1 0),(8,.slice p es.length c),(9,i64 (es.length:Int)),(10,i64 (y.i:Int))]) (fun y=>y.J) (fun y=>QU b1 y.o) ⟨0,_,none⟩ ⟨bQ _,Le.refl _,rfl,aS _⟩ rT rfl rfl ?_;rintro⟨i,_,o⟩ ⟨hi,O,G,a2⟩;dsimp only at hi O G a2 ⊢;have hE:=Z.mono O;refine jR ?_ ?_<;>intro a6 a3
 ·have a0:i<es.length:=oM;obtain⟨S,M⟩:∃e,es[i]?=some e:=⟨_,kV a0⟩;have a1:=lV M;obtain⟨⟨p1,c1,a7,_,hp⟩,Q⟩:=id hE;cases a7;obtain⟨_,eo,_,_,_,_,rfl,W,a8⟩:=hp (jS a0);have N:=Q S a1;clear Q;obtain⟨_,_,a9,-,-⟩:=id N.1;refine kH (eo+i*5) ?_;refine bJ (q3 isAgg59 wK (eF W) (kU oZ a8 M)) ?_;refine jL 1 ?_;intro _ _;refine dN rfl (oV 0 rfl rfl rfl rfl rfl (a0O a9) wK rfl rfl lsA lK.z ?_);refine DY [_] (a8Y b1 o (bV ((es.take i).map jQ) []) S _ G oM (a5 S a1) N) ?_;intro _ _ _ A aa;have hE:=hE.mono A;have G:=G.mono A;have O:=O.mono A;have W:=A _ _ W;have N:=N.mono A;obtain⟨o1,h,a4,rfl⟩:=aa;cases h;refine jL 7 ?_;refine bP (bC dJ) ?_;refine aZ ⟨i+1,_,o1⟩ ⟨dO,O,by dsimp only;rw[ZO M];exact a4,by dsimp only;rw[ZO M];have:=NI S.t (gI S.fs) (bV ((es.take i).map jQ) []);omega⟩ dO rT rfl rfl
 rw[aG (oM:es.length≤i)]at G;refine jW ?_;exact⟨_,o,rfl,G,rfl⟩
end Go.Proofs.YtekmeaoblpfnpaaGreatDoor
end
namespace Go.Sx
open Go
section
variable {P:Program} {K i j:TypeId} {f0 f1:Field}
def EqK {α:Type} [BEq α] (P:Program) (K:TypeId) (kv:α→Array Value):Prop:=∀a b w,(Op.equalIn 10000 K (.agg (kv a)) (.agg (kv b))).run P w= .ok (a == b) w
theorem EqK.a7S(N:P.underlying K=some (.struct #[f0,f1]))(O:P.stoodInHeld K=false)(Q:f0.name≠ "_")(S:f1.name≠ "_")(W:f0.offset=0)(Z:f1.offset=1)(t0:f0.type=i)(A:f1.type=i)(G:P.underlying i=some (.int .i64))(M:∀w,(isAgg i).run P w= .ok false w):
 EqK P K (fun a:Int×Int=> #[i64 a.1,i64 a.2]):=by
 subst t0;exact fun a b w=>KJ N O Q S W Z M (A▸M) (x0:=i64 a.1) (x1:=i64 a.2) (y0:=i64 b.1) (y1:=i64 b.2) w (fun d w=>run_equalIn_int w d _ .i64 .i64 a.1 b.1 G) (fun d w=>run_equalIn_int w d _ .i64 .i64 a.2 b.2 (A▸G)) 9998
end
section
variable {cx:Cx} {S:World→Prop} {ev0:Env} {o:Oper} {α:Type} [BEq α] {t:TypeId} {kv:α→Array Value}
theorem a6N{x y U a b}{vs A:List Value}(Z:o.op= .binOp .eql t x y U)(M:ev ev0 x=some (.agg vs.toArray))(N:ev ev0 y=some (.agg A.toArray))(O:vs.toArray=kv a)(Q:A.toArray=kv b)
 (hK:EqK cx.P t kv)(hq:cx.P.eqGuardType cx.P.depth t=false):kT cx o ev0 S (.bool (a == b)):=by
 intro w0 w W _;have G:(eqGuard .eql t x y (.agg vs.toArray) (.agg A.toArray)).run cx.P w= .ok () w:=by
  simp[eqGuard,hq]
 have h1:=run_eql_struct (P:=cx.P) w t vs.toArray A.toArray;rw[O]at h1 G M;rw[Q]at h1 G N;rw[hK a b w]at h1;simp[execOp,Z,W.eval M,W.eval N,G,h1]
theorem b5w{x y U a b}{vs A:List Value}(Z:o.op= .binOp .neq t x y U)(M:ev ev0 x=some (.agg vs.toArray))(N:ev ev0 y=some (.agg A.toArray))(O:vs.toArray=kv a)(Q:A.toArray=kv b)
 (hK:EqK cx.P t kv)(hq:cx.P.eqGuardType cx.P.depth t=false):kT cx o ev0 S (.bool (a != b)):=by
 intro w0 w W _;have G:(eqGuard .neq t x y (.agg vs.toArray) (.agg A.toArray)).run cx.P w= .ok () w:=by
  simp[eqGuard,hq]
 have h1:=run_neq_struct (P:=cx.P) w t vs.toArray A.toArray;rw[O]at h1 G M;rw[Q]at h1 G N;rw[hK a b w]at h1;simp[execOp,Z,W.eval M,W.eval N,G,h1,bne]
end
section
variable {cx:Cx} {S:World→Prop} {ev0:Env} {o:Oper}
theorem a1W{x T k A v}(G:o.op= .field T x k)(M:ev ev0 x=some A)(N:∀w,(Instr.field T A k).run cx.P w= .ok v w):kT cx o ev0 S v:=by
 intro w0 w O _;simp[execOp,G,O.eval M,N]
end
theorem Pure.borrow{P f args I B v}(A:Enters P f)(h:∀J,Le I J→(∀p∈B,J p.1=some p.2)→Pure P f args J v):jO P f args I B (fun e _ H'=>e= .returned v∧H'=B):=by
 refine jO.QK A fun G M=>?_;refine(jO.borrow (h (DF B I) (XE M) (CU G))).mono fun e _ H' _ ⟨J,K,⟨h1,h2,h3⟩,N,_,_⟩=>⟨h1,?_⟩;subst h3;rw[N,aN]
end Go.Sx
section
namespace Go.Proofs.YtekmeaoblpfnpaaGreatDoor
open _root_.Go.Proofs.Tryz
open Go Go.Sx
abbrev a7u (t:cO):Array Value:= #[i64 t.1,i64 t.2]
theorem a8m:EqK aB 54 a7u:=EqK.a7S a3v kR dE dE rfl rfl rfl rfl UY JR
theorem MF{cs sp:List Value}{o k}{es:List nH}{x}(h:cs.drop o=es.flatMap oD++sp)(A:es[k]?=some x):(cs.drop (o+k*5)).take 2=recC x.t:=by
 have h1:=kU oZ h A;rw[show(cs.drop (o+k*5)).take 2=((cs.drop (o+k*5)).take 5).take 2 by rw[List.take_take,show min 2 5=2 from rfl],h1];rfl
theorem b2P{a b}(h:a.1≠b.1):aF a b=decide (a.1<b.1):=by unfold aF;rw[zI (p:=a.1=b.1) h];simp
theorem b3i{a b}(h:a.1=b.1):aF a b=decide (a.2<b.2):=by unfold aF;rw[zH h,h,zI (Int.lt_irrefl _)];simp
def lH (es:List nH) (t:cO):Nat:=(es.takeWhile fun x=>aF x.t t).length
def nJ (es:List nH) (t:cO):Bool:=match es[lH es t]? with
 |none=>false
 |some x=>x.t == t
def xZ (es:List nH) (e:nH):List nH:=es.take (lH es e.t)++[e]++es.drop (if nJ es e.t then lH es e.t+1 else lH es e.t)
def uV (es:List nH) (t:cO):List nH:=if nJ es t then es.take (lH es t)++es.drop (lH es t+1)else es
theorem wC x es t:lH (x::es) t=if aF x.t t then lH es t+1 else 0:=by
 unfold lH;rw[List.takeWhile_cons];split<;>simp_all
theorem LP:∀(es:List nH) (t:cO),lH es t≤es.length
 |[],_=>bQ _
 |x::r,t=>by rw[wC];have:=LP r t;split<;>simp<;>omega
theorem a1b:∀{es:List nH} {t:cO} {k:Nat},(∀x∈es.take k,aF x.t t=true)→(∀x,es[k]?=some x→aF x.t t=false)→k≤es.length→lH es t=k
 |[],_,k,_,_,hk=>by
  have:k=0:=by simpa using hk
  subst this;rfl
 |x::r,t,0,_,h2,_=>by rw[wC,zD (by rw[h2 x rfl];decide)]
 |x::r,t,k+1,h1,h2,hk=>by
  rw[wC,zF (h1 x (by rw[fB];exact .head _)),a1b (k:=k) (fun y A=>h1 y (by rw[fB];exact .tail _ A)) (fun y A=>h2 y (by rw[List.getElem?_cons_succ];exact A)) (by simpa using hk)]
theorem b0i{es t k x}(h:lH es t=k)(A:es[k]?=some x):nJ es t=(x.t == t):=by unfold nJ;rw[h,A]
theorem a2n{es t k}(h:lH es t=k)(A:es.length≤k):nJ es t=false:=by unfold nJ;rw[h,List.getElem?_eq_none A]
theorem b1S{es:List nH}{t k x}(h:∀y∈es.take k,aF y.t t=true)(A:es[k]?=some x)(M:aF x.t t=true):∀y∈es.take (k+1),aF y.t t=true:=by
 obtain⟨G,A⟩:=aO.1 A;rw[aX G,A];intro y N;rcases dD.1 N with g|g
 ·exact h y g
 rw[fG.1 g];exact M
theorem DC x es t:nJ (x::es) t=if aF x.t t then nJ es t else x.t == t:=by
 unfold nJ;rw[wC]
 by_cases h:aF x.t t=true
 ·rw[zF h,zF h];rfl
 rw[zD h,zD h];rfl
theorem a4l e:∀es:List nH,(xZ es e).map jQ=Ix.sD e.t (gI e.fs) (es.map jQ)
 |[]=>rfl
 |x::r=>by
  have A:=a4l e r;unfold xZ at A ⊢;rw[wC,DC,eY];unfold Ix.sD
  by_cases h:aF x.t e.t=true
  ·rw[zF h,zF h,zF h,←A];have G:(if nJ r e.t=true then lH r e.t+1+1 else lH r e.t+1)=(if nJ r e.t=true then lH r e.t+1 else lH r e.t)+1:=by split<;>rfl
   rw[G];rfl
  rw[zD h,zD h,zD h]
  by_cases h2:x.t=e.t
  ·rw[zF h2,zF (by simpa using h2)];rfl
  rw[zD h2,zD (by simpa using h2)];rfl
theorem a4w{t}{L:List nH}(h:∀x∈L,x.t≠t):dK t (L.map jQ)=L.map jQ:=by
 unfold dK;rw[List.filter_eq_self];intro y A;obtain⟨x,G,rfl⟩:=aP.1 A;exact zH (h x G)
theorem ZQ t:∀es:List nH,fF (es.map jQ)→(uV es t).map jQ=dK t (es.map jQ)
 |[],_=>rfl
 |x::r,hs=>by
  have A:=List.pairwise_cons.1 hs;have N:=ZQ t r A.2;unfold uV at N ⊢;rw[wC,DC,eY];have Q:dK t (jQ x::r.map jQ)=if x.t=t then dK t (r.map jQ)else jQ x::dK t (r.map jQ):=by
   unfold dK;rw[List.filter_cons]
   by_cases g:x.t=t
   ·rw[zF g,zD (by simp[jQ,g])]
   rw[zD g,zF (by simp[jQ,g])]
  have S:∀u:cO,aF u x.t=false→u≠x.t→True:=fun _ _ _=>trivial;rw[Q]
  by_cases h:aF x.t t=true
  ·have O:x.t≠t:=fun g=>by rw[g,Ix.nG]at h;cases h
   rw[zF h,zF h,zD O,←N]
   split<;>rfl
  rw[zD h,zD h]
  by_cases g:x.t=t
  ·rw[zF g,zF (by simpa using g),a4w fun y G M=>by
    have:=A.1 (jQ y) (bH G);simp only[jQ]at this;rw[M,←g,Ix.nG]at this;cases this]
   rfl
  rw[zD g,zD (by simpa using g),a4w fun y G M=>by
   have h1:=A.1 (jQ y) (bH G);simp only[jQ]at h1;rw[M]at h1;exact h h1]
  rfl
theorem b2b es e:(xZ es e).length≤es.length+1:=by
 unfold xZ;have:=LP es e.t;simp only[aC,aA,aQ,bW]
 split<;>omega
theorem b1d es t:(uV es t).length≤es.length:=by
 unfold uV
 split
 ·have:=LP es t;simp only[aC,aA,aQ];omega
 exact aS _
theorem a5q{es e x}(h:x∈xZ es e):x=e∨x∈es:=by
 unfold xZ at h;rcases dD.1 h with g|g
 ·rcases dD.1 g with g|g
  ·exact .inr (bD g)
  exact .inl (fG.1 g)
 exact .inr (aV g)
theorem a1Y{es t x}(h:x∈uV es t):x∈es:=by
 unfold uV at h
 split at h
 ·rcases dD.1 h with g|g
  ·exact bD g
  exact aV g
 exact h
theorem SH{es t}(h:nJ es t=true):lH es t<es.length:=by
 rcases Nat.lt_or_ge (lH es t) es.length with g|g
 ·exact g
 rw[a2n rfl g]at h;cases h
theorem IB{I es v}(h:nP I es v){l:List nH}(A:∀x∈l,x∈es):∀x∈l,(oD x).all gJ=true:=fun x G=>by
 obtain⟨p,c,M,-⟩:=(h.2 x (A x G)).1;exact a0O M
theorem nP.nil{I}:nP I [] (.slice none 0 0):=⟨jU.nil,fun _ h=>by cases h⟩
theorem nP.len{I es v}(h:nP I es v):∃p c,v= .slice p es.length c∧es.length≤c:=let ⟨p,c,h,A,_⟩:=h.1;⟨p,c,h,A⟩
theorem a3q a b I:Pure aB 29 [jY a,jY b] I (.bool (aF a b)):=by
 refine dA ?_;refine jT func29 fun w0 _=>?_;refine jL 3 ?_;intro _ _;refine jL 1 ?_;intro _ _;refine jR ?_ ?_<;>intro A G
 ·have M:=b2P (bne_iff_ne.1 A);refine kF ?_;rw[M];exact rT
 have M:=b3i (sN A);refine kF ?_;rw[M];exact rT
theorem a3y rb w es t (hl:es.length≤1000000) I (a7:I rb=some (jM 50 [w]))(hE:nP I es w):Pure aB 92 [ptr rb 0,jY t] I (.tuple #[i64 (lH es t:Int),.bool (nJ es t)]):=by
 refine dA ?_;obtain⟨p,c,rfl,_,hp⟩:=id hE.1;refine jT func92 fun w0 _=>?_;refine jL 3 ?_;intro b1 _;refine jL 11 ?_;refine eG (ι:=Nat) (fun y=>y≤es.length∧∀x∈es.take y,aF x.t t=true) (fun y=>es.length-y) (fun y=>[(0,ptr rb 0),(3,ptr b1 0),(6,i64 (y:Int))]) (fun y=>_) (fun y=>[(b1,jM 54 [i64 t.1,i64 t.2])]) 0 ⟨bQ _,fun x hx=>by simp at hx⟩ rT rfl rfl ?_;rintro y ⟨hy,O⟩;refine jR ?_ ?_<;>intro a8 a4
 ·have a1:y<es.length:=oM;obtain⟨x,A⟩:∃x,es[y]?=some x:=⟨_,kV a1⟩;obtain⟨_,eo,_,_,_,_,rfl,a2,a3⟩:=hp (jS a1);refine jL 4 ?_;refine dB [0] [] 11 kR ?_;have a9:=a7;have a0:=a2;refine kH (eo+y*5) ?_;refine jL 1 ?_;refine gB 7 rfl (q3 nZ kX (eP a0) (MF a3 A)) ?_;refine kC (a3q x.t t _) ?_;refine mP ?_ ?_<;>intro Q
  ·have S:aF x.t t=false:=by have h:=Q;simpa using h
   refine jL 2 ?_;refine Ej.a2X rfl ?_;refine jL 4 ?_;have G:lH es t=y:=a1b O (fun z hz=>by rw[A]at hz;cases hz;exact S) hy;have W:=b0i G A;refine dB [0] [] 22 kR ?_;refine jL 9 ?_;refine JA.split 37 rfl (fun M=>?_) (fun M=>?_)
   rotate_left
   ·have a5:=nI M;omega
   have a5:=mD M;refine jL 5 ?_;refine JA.fix lF (fun N=>?_);refine JA.tkG 14 8 37 true _ rfl N rfl rfl M (q7 (off':=eo+y*5) uF wK) ?_;refine jL 1 ?_;refine JA.fix lF (fun N=>?_);refine JA.tkG 16 8 37 true _ rfl N rfl rfl M (q3 nZ kX (eP a2) (MF a3 A)) ?_;refine jL 1 ?_;refine JA.fix lF (fun N=>?_);refine JA.tkG 18 8 37 true _ rfl N rfl rfl M (a6N (kv:=a7u) (a:=x.t) (b:=t) rfl rfl rfl rfl rfl a8m kR) ?_;refine kF ?_;rw[G,W];exact rT
  have S:aF x.t t=true:=by have h:=Q;simpa using h
  refine jL 8 ?_;refine aZ (y+1) ⟨oM,b1S O A S⟩ oM rT rfl rfl
 refine jL 6 ?_;have G:lH es t=y:=a1b O (fun x hx=>absurd (aO.1 hx).1 oM) hy;have W:=a2n G oM;refine dB [0] [] 22 kR ?_;refine jL 9 ?_;refine JA.split 37 rfl (fun Z=>?_) (fun Z=>?_)
 ·have a6:=mD Z;omega
 have a6:=nI Z;refine kF ?_;rw[G,W];exact rT
theorem a2E A w es t (M:es.length≤1000000) I (N:nP I es w):jO aB 92 [ptr A 0,jY t] I [(A,jM 50 [w])] (fun e _ H'=>e= .returned (.tuple #[i64 (lH es t:Int),.bool (nJ es t)])∧H'=[(A,jM 50 [w])]):=
 Pure.borrow (Enters.of func92 dE rfl) fun J G O=>a3y A w es t M J (O (A,_) (.head _)) (N.mono G)
theorem jU.from{α:Type}{f:α→List Value}{sz:Nat}(A:∀x,(f x).length=sz){I l a c}(h:jU f I l (.slice a l.length c)){j:Nat}(G:j≤l.length):jU f I (l.drop j) (.slice (yS a c j sz) (l.length-j) (c-j)):=by
 have h1:=jU.cut A h G (aS _)
 rwa [aG (by rw[aQ];omega)]at h1
theorem a0d a b e:((([]:List Value)++a.flatMap oD)++oD e)++b.flatMap oD=(a++[e]++b).flatMap oD:=sI
theorem b2T(a b:List nH):(([]:List Value)++a.flatMap oD)++b.flatMap oD=(a++b).flatMap oD:=sI
theorem nP.put{I G es e w v}(h:nP I es w)(M:xX I e.fs e.v)(A:Le I G)(N:jU oD G (xZ es e) v):nP G (xZ es e) v:=⟨N,fun x O=>by
 rcases a5q O with rfl|g
 ·exact M.mono A
 exact(h.2 x g).mono A⟩
theorem nP.drop{I A es t w v}(h:nP I es w)(G:Le I A)(M:jU oD A (uV es t) v):nP A (uV es t) v:=⟨M,fun x N=>(h.2 x (a1Y N)).mono G⟩
theorem b5u Z w es e (hl:es.length≤1000000) I (G:nP I es w)(hr:xX I e.fs e.v):jO aB 99 [ptr Z 0,.agg (oD e).toArray] I [(Z,jM 50 [w])] (fun ev I' H'=>∃w',ev= .returned (.tuple #[])∧nP I' (xZ es e) w'∧H'=[(Z,jM 50 [w'])]):=by
 have A:=G.1;obtain⟨p,c,rfl,_⟩:=G.len;obtain⟨_,_,a6,-,-⟩:=id hr.1;have a2:=LP es e.t;have ad:(es.take (lH es e.t)).length=lH es e.t:=by rw[aA];omega
 refine jT func99 fun w0 _=>?_;refine jL 3 ?_;intro _ _;refine jL 7 ?_;refine J.pull (Pull.s Pull.z) ?_;refine kJ (a2E Z _ es e.t hl _ G) ?_;intro _ _ _ O a7;have G:=G.mono O;have hr:=hr.mono O;have A:=A.mono O;obtain⟨h,rfl⟩:=a7;cases h;refine jL 20 ?_;refine bJ (qB (k:=lH es e.t) rfl rfl rfl uF wK rfl oM) ?_;refine dN rfl (kK (by':=47) (n:=0) (g:=none) (xs:=[]) [_,_] rfl rfl rfl rfl rfl uF (.inr ⟨_,uF⟩) kR wK KQ rfl rT rfl (fO oZ (jU.take A a2) (IB G (fun x hx=>bD hx))) oM ?_);intro _ a8;refine jL 8 ?_;intro _ _;refine dN rfl (kK (by':=47) [_,_,_] rfl rfl rfl rfl rfl uF (.inr ⟨_,uF⟩) kR wK KQ rfl a8 rfl (Src.slice (jV.at 0 rfl) rfl rfl (a0O a6)) oM ?_);intro _ a3;refine mP ?_ ?_<;>intro Q
 ·have W:nJ es e.t=true:=Q;have a9:=SH W;have a0:lH es e.t+1≤es.length:=a9;have aa:(es.drop (lH es e.t+1)).length=es.length-(lH es e.t+1):=aQ;refine jL 14 ?_;refine bJ (pW (j:=(lH es e.t+1)) rfl rfl rfl uF wK rfl oM oM) ?_;refine dN rfl (kK (by':=47) [_,_,_] rfl rfl rfl rfl rfl uF (.inr ⟨_,uF⟩) kR wK KQ rfl a3 rfl (fO oZ (jU.from oZ A (j:=lH es e.t+1) a0) (IB G (fun x hx=>aV hx))) oM ?_);intro ab a4;refine jL 4 ?_;refine bP (bC (dR (bC dJ))) ?_;have M:es.take (lH es e.t)++[e]++es.drop (lH es e.t+1)=xZ es e:=by unfold xZ;rw[W];rfl
  have N:=(a0d (es.take (lH es e.t)) (es.drop (lH es e.t+1)) e).trans (zC (fH oD) M);refine gK (H':=gH 59 ((xZ es e).flatMap oD) ab++[(Z,_)]) (by rw[←N];exact bY) ?_;refine fV oZ dE (by rw[←N];exact a4) (by rw[←M];simp only[aC,bW];omega) (fun I8 S a1=>?_);refine gQ rfl rfl ?_;exact⟨_,rfl,G.put hr S a1,rfl⟩
 have W:nJ es e.t=false:=Q;have a0:=a2;have aa:(es.drop (lH es e.t)).length=es.length-lH es e.t:=aQ;refine jL 10 ?_;refine bJ (pW (j:=(lH es e.t)) rfl rfl rfl uF wK rfl oM oM) ?_;refine dN rfl (kK (by':=47) [_,_,_] rfl rfl rfl rfl rfl uF (.inr ⟨_,uF⟩) kR wK KQ rfl a3 rfl (fO oZ (jU.from oZ A (j:=lH es e.t) a0) (IB G (fun x hx=>aV hx))) oM ?_);intro ac a5;refine jL 4 ?_;refine bP (bC (dR (bC dJ))) ?_;have M:es.take (lH es e.t)++[e]++es.drop (lH es e.t)=xZ es e:=by unfold xZ;rw[W];rfl
 have N:=(a0d (es.take (lH es e.t)) (es.drop (lH es e.t)) e).trans (zC (fH oD) M);refine gK (H':=gH 59 ((xZ es e).flatMap oD) ac++[(Z,_)]) (by rw[←N];exact bY) ?_;refine fV oZ dE (by rw[←N];exact a5) (by rw[←M];simp only[aC,bW];omega) (fun I8 S a1=>?_);refine gQ rfl rfl ?_;exact⟨_,rfl,G.put hr S a1,rfl⟩
theorem b2v N w es t (hl:es.length≤1000000) I (A:nP I es w):jO aB 44 [ptr N 0,jY t] I [(N,jM 50 [w])] (fun ev I' H'=>∃w',ev= .returned (.tuple #[])∧nP I' (uV es t) w'∧H'=[(N,jM 50 [w'])]):=by
 have G:=A.1;obtain⟨p,c,rfl,_⟩:=A.len;have a1:=LP es t;have a8:(es.take (lH es t)).length=lH es t:=by rw[aA];omega
 refine jT func44 fun w0 _=>?_;refine jL 3 ?_;intro _ _;refine jL 6 ?_;refine J.pull (Pull.s Pull.z) ?_;refine kJ (a2E N _ es t hl _ A) ?_;intro _ _ _ O a2;have A:=A.mono O;have G:=G.mono O;obtain⟨h,rfl⟩:=a2;cases h;refine mP ?_ ?_<;>intro Q
 ·have M:nJ es t=true:=Q;have a3:=SH M;have a4:lH es t+1≤es.length:=a3;have a9:(es.drop (lH es t+1)).length=es.length-(lH es t+1):=aQ;refine jL 13 ?_;refine bJ (qB (k:=lH es t) rfl rfl rfl uF wK rfl oM) ?_;refine dN rfl (kK (by':=47) (n:=0) (g:=none) (xs:=[]) [_,_] rfl rfl rfl rfl rfl uF (.inr ⟨_,uF⟩) kR wK KQ rfl rT rfl (fO oZ (jU.take G a1) (IB A (fun x Z=>bD Z))) oM ?_);intro _ a5;refine jL 12 ?_;refine bJ (pW (j:=(lH es t+1)) rfl rfl rfl uF wK rfl oM oM) ?_;refine dN rfl (kK (by':=47) [_,_] rfl rfl rfl rfl rfl uF (.inr ⟨_,uF⟩) kR wK KQ rfl a5 rfl (fO oZ (jU.from oZ G (j:=lH es t+1) a4) (IB A (fun x Z=>aV Z))) oM ?_);intro g9 a6;refine jL 4 ?_;refine bP (dR (bC dJ)) ?_;have S:es.take (lH es t)++es.drop (lH es t+1)=uV es t:=by unfold uV;rw[M];rfl
  have W:=(b2T (es.take (lH es t)) (es.drop (lH es t+1))).trans (zC (fH oD) S);refine gK (H':=gH 59 ((uV es t).flatMap oD) g9++[(N,_)]) (by rw[←W];exact bY) ?_;refine fV oZ dE (by rw[←W];exact a6) (by rw[←S];simp only[aC];omega) (fun _ a0 a7=>?_);refine gQ rfl rfl ?_;exact⟨_,rfl,A.drop a0 a7,rfl⟩
 have M:nJ es t=false:=Q;refine jL 1 ?_;refine bP (dR (bC Keeps.n)) ?_;refine gQ rfl rfl ?_;exact⟨_,rfl,(show uV es t=es from by unfold uV;rw[M];rfl).symm▸A,rfl⟩
theorem a9s{α:Type}{f:α→List Value}{l:List α}{k x}(h:l[k]?=some x):(l.take (k+1)).flatMap f=(l.take k).flatMap f++f x:=by
 obtain⟨A,h⟩:=aO.1 h;rw[aX A,h,bI];simp
theorem ZI W w es (hl:es.length≤1000000) I (a5:I W=some (jM 50 [w]))(hE:nP I es w):jO aB 62 [ptr W 0] I [] (fun e I' H'=>∃v,e= .returned v∧jU recC I' (es.map (·.t)) v∧H'=[]):=by
 obtain⟨p,c,rfl,_,hp⟩:=id hE.1;refine jT func62 fun w0 _=>?_;refine jL 17 ?_;refine eG (ι:=Nat×Gs) (fun y=>y.1≤es.length∧kY w0.heap.size 2 (es.take y.1).length ((es.take y.1).flatMap fun x=>recC x.t) y.2) (fun y=>es.length-y.1) (fun y=>[(0,ptr W 0),(3,gV (es.take y.1).length y.2),(4,i64 (y.1:Int))]) (fun y=>_) (fun y=>gH 54 ((es.take y.1).flatMap fun x=>recC x.t) y.2) (0,none) ⟨bQ _,rfl,rfl⟩ rT rfl rfl ?_;rintro⟨y,g⟩ ⟨hy,G⟩;dsimp only at hy G ⊢;have a6:(es.take y).length=y:=by rw[aA];omega
 refine jR ?_ ?_<;>intro a0 Z
 ·have N:y<es.length:=oM;obtain⟨x,A⟩:∃x,es[y]?=some x:=⟨_,kV N⟩;obtain⟨_,eo,_,_,_,_,rfl,a1,a2⟩:=hp (jS N);have O:=a9s (f:=fun x:nH=>recC x.t) A;have Q:(es.take (y+1)).length=(es.take y).length+1:=by rw[aA,aA];omega
  refine kH (eo+y*5) ?_;refine jL 1 ?_;refine bJ (q3 nZ kX (eF a1) (MF a2 A)) ?_;refine jL 1 ?_;intro _ _;refine zS 15 [_] G ?_;intro g3 a3;refine jL 9 ?_;refine bP (bC dJ) ?_;refine aZ (y+1,g3) ⟨dO,by dsimp only;rw[Q,O];exact a3⟩ dO ⟨rfl,by dsimp only;rw[Q];rfl,rfl,trivial⟩ rfl (by dsimp only;rw[O];rfl)
 refine jL 12 ?_;have M:es.take y=es:=aG oM;rw[M]at G ⊢;have S:(es.map (·.t)).flatMap recC=es.flatMap fun x=>recC x.t:=List.flatMap_map _ recC _;refine gK (H':=gH 54 ((es.map (·.t)).flatMap recC) g++[]) (.of_eq (by rw[S,aN])) ?_;refine fV jZ dE (by rw[S];exact G) (by rw[aH]) (fun _ _ a4=>?_);refine jW ?_;exact⟨_,rfl,a4,rfl⟩
end Go.Proofs.YtekmeaoblpfnpaaGreatDoor
end
section
namespace Go.Proofs.YtekmeaoblpfnpaaGreatDoor
open _root_.Go.Proofs.Tryz
open Go Go.Sx
def rn (s:List UInt8):List UInt8:=(s.takeWhile bF).filter dF
theorem a8H{c}(h:c.toNat=88∨c.toNat=120):aJ c=88:=by
 rcases h with h|h
 ·rw[show c=88 from gG.1 (by rw[h];rfl)];rfl
 rw[show c=120 from gG.1 (by rw[h];rfl)];rfl
theorem a7l{c}(h:aU c=true):aJ c=c:=(Ke.digit_ok h).2.2
theorem a9N{c}(h:aU c=true):bM c=c.toNat-48:=by
 have:=fJ.1 h;unfold bM;rw[zD fun e=>by rw[e]at this;exact absurd this.2 dE]
theorem b7m{c}(h:(48≤c.toNat∧c.toNat≤57)∨c.toNat=88∨c.toNat=120):bF c=true∧dF c=true:=by
 revert h;exact dY (p:=fun c=>(48≤c.toNat∧c.toNat≤57)∨c.toNat=88∨c.toNat=120→bF c=true∧dF c=true) (by decide +kernel) c
theorem b4c{c}(h:c.toNat=32∨c.toNat=45):bF c=true∧dF c=false:=by
 revert h;exact dY (p:=fun c=>c.toNat=32∨c.toNat=45→bF c=true∧dF c=false) (by decide +kernel) c
theorem b7e{c}(h:¬((48≤c.toNat∧c.toNat≤57)∨c.toNat=88∨c.toNat=120∨c.toNat=32∨c.toNat=45)):bF c=false:=by
 revert h;exact dY (p:=fun c=>¬((48≤c.toNat∧c.toNat≤57)∨c.toNat=88∨c.toNat=120∨c.toNat=32∨c.toNat=45)→bF c=false) (by decide +kernel) c
theorem b2M s:∀c∈rn s,aU c=true∨c.toNat=88∨c.toNat=120:=fun c A=>by
 obtain⟨h1,h2⟩:=cZ.1 A;have h3:bF c=true:=List.all_eq_true.1 (List.all_takeWhile (p:=bF)) c h1;revert h2 h3;exact dY (p:=fun d=>dF d=true→bF d=true→aU d=true∨d.toNat=88∨d.toNat=120) (by decide +kernel) c
theorem b6Y s:(rn s).length≤s.length:=nO (dZ _ _) (List.takeWhile_prefix _).length_le
theorem XM{s:List UInt8}{k c}(h:s[k]?=some c):(s.take (k+1)).filter dF=(s.take k).filter dF++(if dF c then[c]else[]):=by
 obtain⟨A,G⟩:=aO.1 h;rw[aX A,G,fD];cases hn:dF c<;>simp[hn]
theorem RQ{t}(h:∀c∈t,aU c=true∨c.toNat=88∨c.toNat=120):bZ (t.map aJ)=bZ t:=by
 induction t with
 |nil=>rfl
 |cons c r G=>
  rw[eY,gU,gU,G fun d A=>h d (.tail _ A)];rcases h c (.head _)with e|e
  ·rw[a7l e]
  rw[a8H e];have:aU c=false:=by
   rcases A:aU c with _|_
   ·rfl
   have:=fJ.1 A;omega
  rw[this];rfl
theorem yZ{t}(h:bZ t=true):t.map aJ=t:=Ke.a8Q h
theorem PO{s:List UInt8}{j c}(G:j<9)(A:s[j]?=some c)(M:c.toNat=88∨c.toNat=120):bT (s.map aJ)=false:=by
 have h1:((s.map aJ).take 9)[j]?=some (aJ c):=by rw[fK,zF G,fQ,A];rfl
 have h2:bZ ((s.map aJ).take 9)=false:=by
  refine a0E h1 ?_;rw[a8H M];decide
 unfold bT;rw[h2,Bool.and_false]
theorem a1G s (a0:12≤s.length)(hs:s.length≤1000000000)(hd:bZ (s.take 12)=true) I:Pure aB 120 [str s] I (u8 (Ke.check s)):=by
 refine jT func120 fun w0 _=>?_;refine jL 17 ?_;refine eG (ι:=Nat) (fun j=>j≤12) (fun j=>12-j) (fun j=>[(0,str s),(3,i64 ((fP 0 ((s.take 12).take j):Nat):Int)),(4,i64 (j:Int))]) (fun j=>I) (fun j=>[]) 0 (bQ _) rT rfl rfl ?_;intro j _;have S:=a0N ((s.take 12).take j) 0;rw[aA,aA]at S;refine jR ?_ ?_<;>intro W O
 ·have Z:j<s.length:=oM;obtain⟨c,A⟩:∃c,s[j]?=some c:=⟨_,kV Z⟩;have G:(s.take 12)[j]?=some c:=by rw[fK,zF oM];exact A
  have hc:=a1B hd G;refine jL 8 ?_;refine bJ (lD rfl rfl rfl lI oM A) ?_;refine bJ (MB rfl rfl rfl (w8 oM)) ?_;refine jL 1 ?_;refine aT 14 (i64 ((c.toNat-48:Nat):Int)) rfl (zC i64 ((sZ oM).trans oM)) ?_;refine jL 8 ?_;refine aT 16 (i64 ((j % 2:Nat):Int)) rfl rfl ?_;refine jR ?_ ?_<;>intro M Q
  ·have h2:j % 2=1:=by have h:=lN M;omega
   refine jL 19 ?_;refine aZ (j+1) oM oM ⟨rfl,by rw[QO G,h2];exact zC (fun z=>some (dL .i64 z)) oM,rfl,trivial⟩ rfl rfl
  have h2:j % 2=0:=by have h:=lX M;omega
  refine jL 15 ?_;refine aZ (j+1) oM oM ⟨rfl,by rw[QO G,h2];exact zC (fun z=>some (dL .i64 z)) oM,rfl,trivial⟩ rfl rfl
 have N:(s.take 12).take j=s.take 12:=aG (by rw[aA];omega);refine jL 9 ?_;refine aT 24 (i64 ((fP 0 (s.take 12) % 10:Nat):Int)) rfl (by rw[N];rfl) ?_;refine jL 1 ?_;refine aT 25 (i64 ((10-fP 0 (s.take 12) % 10:Nat):Int)) rfl (zC i64 oM) ?_;refine jL 1 ?_;refine aT 26 (i64 (((10-fP 0 (s.take 12) % 10) % 10:Nat):Int)) rfl rfl ?_;refine jL 1 ?_;refine aT 27 (i64 ((48+(10-fP 0 (s.take 12) % 10) % 10:Nat):Int)) rfl (zC i64 oM) ?_;refine jL 1 ?_;refine aT 28 (u8 (Ke.check s)) rfl (zC (dL .u8) (JQ oM)) ?_;refine jW ?_;exact rT
theorem b3M(a b:Nat):((a:Int) == (b:Int))=(a == b):=by
 rw[Bool.eq_iff_iff,beq_iff_eq,beq_iff_eq];omega
theorem b3C{s:List UInt8}{j c}(N:j≤10)(A:(s.take (min j 9)).all aU=true)(G:s[j]?=some c)(M:aU c=true):(s.take (min (j+1) 9)).all aU=true:=by
 rcases Nat.lt_or_ge j 9 with h|h
 ·rw[dV oM]at A ⊢;exact b0c A G M
 rw[aW oM]at A ⊢;exact A
theorem b6r s (a8:s.length=10)(hx:∀c∈s,aU c=true∨c.toNat=88∨c.toNat=120) I:Pure aB 119 [str s] I (.bool (bT (s.map aJ))):=by
 refine jT func119 fun w0 _=>?_;refine jL 17 ?_;refine eG (ι:=Nat) (fun j=>j≤10∧(s.take (min j 9)).all aU=true) (fun j=>10-j) (fun j=>[(0,str s),(3,i64 ((Ke.II 0 ((s.map aJ).take j):Nat):Int)),(4,i64 (j:Int))]) (fun j=>I) (fun j=>[]) 0 ⟨bQ _,rfl⟩ rT rfl rfl ?_;rintro j ⟨hj,A⟩;have a9:=a0w ((s.map aJ).take j) 0;rw[aA,aH,a8]at a9;refine jR ?_ ?_<;>intro aa a4
 ·have ab:j<s.length:=oM;obtain⟨c,G⟩:∃c,s[j]?=some c:=⟨_,kV ab⟩;have M:(s.map aJ)[j]?=some (aJ c):=by rw[fQ,G];rfl
  have a2:=hx c (lV G);have ae:=c.toNat_lt;have af:48≤c.toNat:=a2.elim (fun h=>(fJ.1 h).1) (fun h=>oM);have hm:(10-j)*bM (aJ c)≤10*255:=Nat.mul_le_mul oM (a3D _);refine jL 8 ?_;refine bJ (lD rfl rfl rfl lI oM G) ?_;refine jL 1 ?_;refine aT 13 (i64 (c.toNat:Int)) rfl (zC i64 (sZ oM)) ?_;refine jL 1 ?_;refine aT 14 (i64 ((c.toNat-48:Nat):Int)) rfl (zC i64 oM) ?_;refine jL 8 ?_;refine bJ (lD rfl rfl rfl lI oM G) ?_;refine pI ?_ ?_<;>intro N
  ·have ac:=lN N;refine jL 9 ?_;have O:c.toNat=88∨c.toNat=120:=oM;have a3:bM (aJ c)=10:=by rw[a8H O];rfl
   refine jR ?_ ?_<;>intro Q a5
   ·have S:=mD Q;refine jW ?_;rw[PO oM G O];exact rT
   have S:=nI Q;refine jL 6 ?_;refine aT 29 (i64 ((10-j:Nat):Int)) rfl (zC i64 oM) ?_;refine jL 1 ?_;refine aT 30 (i64 ((bM (aJ c):Nat):Int)) rfl (zC i64 oM) ?_;refine bJ (EL rfl rfl rfl (sZ (by rw[←aY];omega))) ?_;refine aT 31 (i64 (((10-j)*bM (aJ c):Nat):Int)) rfl (zC i64 (aY _ _).symm) ?_;refine jL 10 ?_;refine aZ (j+1) ⟨oM,by rw[aW oM]at A ⊢;exact A⟩ oM ⟨rfl,by rw[EG M];exact zC (fun z=>some (dL .i64 z)) oM,rfl,trivial⟩ rfl rfl
  have ac:=lX N;refine jL 2 ?_;refine J.zg (lD rfl rfl rfl lI oM G) ?_;refine jR ?_ ?_<;>intro W a6
  ·have ad:=lN W;refine jL 1 ?_;have O:c.toNat=88∨c.toNat=120:=oM;have a3:bM (aJ c)=10:=by rw[a8H O];rfl
   refine jR ?_ ?_<;>intro Z a7
   ·have S:=mD Z;refine jW ?_;rw[PO oM G O];exact rT
   have S:=nI Z;refine jL 6 ?_;refine aT 29 (i64 ((10-j:Nat):Int)) rfl (zC i64 oM) ?_;refine jL 1 ?_;refine aT 30 (i64 ((bM (aJ c):Nat):Int)) rfl (zC i64 oM) ?_;refine bJ (EL rfl rfl rfl (sZ (by rw[←aY];omega))) ?_;refine aT 31 (i64 (((10-j)*bM (aJ c):Nat):Int)) rfl (zC i64 (aY _ _).symm) ?_;refine jL 10 ?_;refine aZ (j+1) ⟨oM,by rw[aW oM]at A ⊢;exact A⟩ oM ⟨rfl,by rw[EG M];exact zC (fun z=>some (dL .i64 z)) oM,rfl,trivial⟩ rfl rfl
  have ad:=lX W;have a0:aU c=true:=a2.resolve_right oM;have a3:bM (aJ c)=c.toNat-48:=by rw[a7l a0];exact a9N a0
  refine jL 6 ?_;refine aT 29 (i64 ((10-j:Nat):Int)) rfl (zC i64 oM) ?_;refine jL 1 ?_;refine aT 30 (i64 ((bM (aJ c):Nat):Int)) rfl (zC i64 oM) ?_;refine bJ (EL rfl rfl rfl (sZ (by rw[←aY];omega))) ?_;refine aT 31 (i64 (((10-j)*bM (aJ c):Nat):Int)) rfl (zC i64 (aY _ _).symm) ?_;refine jL 10 ?_;refine aZ (j+1) ⟨oM,by exact b3C hj A G a0⟩ oM ⟨rfl,by rw[EG M];exact zC (fun z=>some (dL .i64 z)) oM,rfl,trivial⟩ rfl rfl
 have a1:(s.map aJ).take j=s.map aJ:=aG (by rw[aH];omega);refine jL 9 ?_;refine aT 34 (i64 ((Ke.II 0 (s.map aJ) % 11:Nat):Int)) rfl (by rw[a1];rfl) ?_;refine jW ?_;have hr:bT (s.map aJ)=(Ke.II 0 (s.map aJ) % 11 == 0):=by
  unfold bT;rw[←gX,yZ (show bZ (s.take 9)=true by rw[aW oM]at A;exact A),show bZ (s.take 9)=true by rw[aW oM]at A;exact A,Bool.and_true]
 rw[hr];exact⟨zC (fun b=>Ending.returned (.bool b)) (b3M _ _),rfl,rfl⟩
theorem b4w{s j}(G:¬j<s.length)(A:(s.take j).all bF=true):(s.take j).filter dF=rn s:=by
 rw[aG oM]at A ⊢;unfold rn;rw[LU A]
theorem b7i{s j c}(A:(s.take j).all bF=true)(G:s[j]?=some c)(M:bF c=false):(s.take j).filter dF=rn s:=by
 unfold rn;rw[YJ A G M]
theorem a4k s (hs : s.length ≤ 100000000) I : Pure Tryz.prog 67 [str s] I (.tuple #[str (Ke.EO s).1, .bool (Ke.EO s).2]) := by
 refine jO.toPure ?_
 have b8 := b6Y s
 have a8 := b2M s
 have ab : Ke.EO s = Ke.a2V ((rn s).map Ke.up) := rfl
 have a9 : ((rn s).map Ke.up).length = (rn s).length := List.length_map _
 refine jT func67 fun w0 _ => ?_
 refine jL 11 ?_
 refine Cj.join (ι := Unit) (fun O => True) (fun O => [(4, str (rn s))]) (fun O => I) (fun O => []) ?_ (fun A => ?_)
 ·rintro _ -
  refine Cj.join (ι := Unit) (fun O => ¬ (((rn s).map Ke.up).length = 10 ∧ Ke.MN ((rn s).map Ke.up) = true)) (fun O => [(4, str (rn s))]) (fun O => I) (fun O => []) ?_ (fun A => ?_)
  ·rintro _ S
   refine kC (XT (rn s) (by omega) _) ?_
   refine jL 3 ?_
   refine Cj.join (ι := Unit) (fun O => ¬ (((rn s).map Ke.up).length = 13 ∧ Ke.digits ((rn s).map Ke.up) = true ∧ Ke.check ((rn s).map Ke.up) = ((rn s).map Ke.up).getD 12 0)) (fun O => [(4, str (rn s))]) (fun O => I) (fun O => []) ?_ (fun A => ?_)
   ·rintro _ M
    refine jW ?_
    have he : Ke.EO s = ([], false) := by rw [ab]; unfold Ke.a2V; rw [if_neg S, if_neg M]
    rw [he]
    exact ⟨rfl, rfl⟩
   refine jL 1 ?_
   refine Cj.qC [] [] 13 (by kernel_rfl) ?_
   refine jL 4 ?_
   refine JA.split 63 rfl (fun ac => ?_) (fun ac => ?_)
   rotate_left
   ·have M : ¬ (((rn s).map Ke.up).length = 13 ∧ Ke.digits ((rn s).map Ke.up) = true ∧ Ke.check ((rn s).map Ke.up) = ((rn s).map Ke.up).getD 12 0) := fun e => lX ac (by rw [← a9, e.1]; rfl)
    refine jL 13 ?_
    exact A () _ _ _ M ⟨rfl, trivial⟩ rfl rfl
   have ax : (rn s).length = 13 := by have h := lN ac; omega
   refine jL 3 ?_
   refine JA.split 66 rfl (fun aa => ?_) (fun aa => ?_)
   rotate_left
   ·have M : ¬ (((rn s).map Ke.up).length = 13 ∧ Ke.digits ((rn s).map Ke.up) = true ∧ Ke.check ((rn s).map Ke.up) = ((rn s).map Ke.up).getD 12 0) := fun e => Bool.noConfusion (((RQ a8).symm.trans e.2.1).symm.trans aa)
    refine jL 10 ?_
    exact A () _ _ _ M ⟨rfl, trivial⟩ rfl rfl
   have W : Ke.digits (rn s) = true := aa
   have aq : Ke.digits ((rn s).take 12) = true := List.all_eq_true.2 fun c hc => List.all_eq_true.1 W c (List.mem_of_mem_take hc)
   obtain ⟨d, ad⟩ : ∃ c, (rn s)[12]? = some c := ⟨_, kV (by omega)⟩
   have am : ((rn s).map Ke.up).getD 12 0 = d := by rw [yZ W, List.getD, ad]; rfl
   refine jL 2 ?_
   refine JA.fix lF (fun fx1 => ?_)
   refine JA.tkG 10 6 66 true _ rfl fx1 rfl rfl aa (lD rfl rfl rfl lI (by omega) ad) ?_
   refine kC (a1G (rn s) (by omega) (by omega) aq _) ?_
   refine jR (fun ae ar => ?_) (fun ae ar => ?_)
   ·have ay : Ke.check ((rn s).map Ke.up) = ((rn s).map Ke.up).getD 12 0 := by have h := lN ae; rw [am, yZ W]; exact UInt8.toNat_inj.1 (by omega)
    refine jW ?_
    have he : Ke.EO s = (rn s, true) := by rw [ab]; unfold Ke.a2V; rw [if_neg S, if_pos ⟨a9.trans ax, (RQ a8).trans W, ay⟩, yZ W]
    rw [he]
    exact ⟨rfl, rfl⟩
   ·have M : ¬ (((rn s).map Ke.up).length = 13 ∧ Ke.digits ((rn s).map Ke.up) = true ∧ Ke.check ((rn s).map Ke.up) = ((rn s).map Ke.up).getD 12 0) := fun e => lX ae (by have h := e.2.2; rw [am, yZ W] at h; rw [h])
    refine jL 1 ?_
    exact A () _ _ _ M ⟨rfl, trivial⟩ rfl rfl
  refine jR (fun af au => ?_) (fun af au => ?_)
  ·have an : (rn s).length = 10 := by have h := lN af; omega
   refine kC (b6r (rn s) an a8 _) ?_
   refine mP (fun ag => ?_) (fun ag => ?_)
   ·have ao : Ke.MN ((rn s).map Ke.up) = true := ag
    have ap : Ke.digits ((rn s).take 9) = true := by rw [← RQ (fun c hc => a8 c (List.mem_of_mem_take hc)), List.map_take]; exact (Bool.and_eq_true_iff.1 ao).2
    have av : ((rn s).map Ke.up).take 9 = (rn s).take 9 := by rw [← List.map_take, yZ ap]
    have ah := a2B (b := []) ap (by rw [List.length_take]; omega)
    rw [List.append_nil] at ah
    refine jL 3 ?_
    refine J.z (lJ (p := 0) (q := 9) rfl rfl lI rfl ⟨_, rfl⟩ (by omega) (by omega)) ?_
    refine J.ev 50 (str ((rn s).take 9)) rfl (by rw [List.drop_zero]) ?_
    refine J.z (oO rfl rfl rfl (by first | omega | (simp only [List.length_append]; omega) | (simp; omega))) ?_
    refine kC (a1G _ (by simp; omega) (by simp; omega) ah _) ?_
    refine jL 1 ?_
    intro _ _
    refine J.z (tV [Ke.check ([57, 55, 56] ++ (rn s).take 9)] rfl rfl rfl rX lI MI (jV.at 0 rfl) rfl) ?_
    refine J.z (oO rfl rfl rfl (by first | omega | (simp only [List.length_append]; omega) | (simp; omega))) ?_
    refine kF ?_
    have he : Ke.EO s = ([57, 55, 56] ++ (rn s).take 9 ++ [Ke.check ([57, 55, 56] ++ (rn s).take 9)], true) := by rw [ab]; unfold Ke.a2V; rw [if_pos ⟨a9.trans an, ao⟩, av]
    rw [he]
    exact ⟨rfl, rfl⟩
   have S : ¬ (((rn s).map Ke.up).length = 10 ∧ Ke.MN ((rn s).map Ke.up) = true) := fun e => Bool.noConfusion (e.2.symm.trans ag)
   refine jL 1 ?_
   exact A () _ _ _ S ⟨rfl, trivial⟩ rfl rfl
  have S : ¬ (((rn s).map Ke.up).length = 10 ∧ Ke.MN ((rn s).map Ke.up) = true) := fun e => lX af (by rw [← a9, e.1]; rfl)
  refine jL 1 ?_
  exact A () _ _ _ S ⟨rfl, trivial⟩ rfl rfl
 refine jL 6 ?_
 refine Cj.loop (ι := Nat) (fun j => j ≤ s.length ∧ (s.take j).all Ke.okb = true) (fun j => s.length - j) (fun j => [(0, str s), (4, str ((s.take j).filter Ke.nb)), (5, i64 (j : Int))]) (fun j => _) (fun j => []) 0 ⟨Nat.zero_le _, rfl⟩ ⟨rfl, rfl, rfl, trivial⟩ rfl rfl ?_
 rintro j ⟨hj, Q⟩
 have az := List.length_filter_le Ke.nb (s.take j)
 rw [List.length_take, Nat.min_eq_left hj] at az
 refine jR (fun aw aj => ?_) (fun aw aj => ?_)
 ·have b0 : j < s.length := by omega
  obtain ⟨c, G⟩ : ∃ c, s[j]? = some c := ⟨_, kV b0⟩
  refine jL 8 ?_
  refine J.z (lD rfl rfl rfl lI (by omega) G) ?_
  refine jL 3 ?_
  refine Cj.join (ι := Bool) (fun y => (y = true → ((48 ≤ (c.toNat : Int) ∧ (c.toNat : Int) ≤ 57) ∨ (c.toNat : Int) = 88 ∨ (c.toNat : Int) = 120)) ∧ (y = false → ¬ ((48 ≤ (c.toNat : Int) ∧ (c.toNat : Int) ≤ 57) ∨ (c.toNat : Int) = 88 ∨ (c.toNat : Int) = 120))) (fun y => [(0, str s), (4, str ((s.take j).filter Ke.nb)), (5, i64 (j : Int)), (6, u8 c), (31, .bool y)]) (fun y => I) (fun y => []) ?_ (fun A => ?_)
  ·rintro y ⟨b1, b2⟩
   refine mP (fun a0 => ?_) (fun a0 => ?_)
   ·have b3 := b1 a0
    have Z := b7m (c := c) (by omega)
    refine jL 4 ?_
    intro _ _
    refine J.z (tV [c] rfl rfl rfl rX lI MI (jV.at 0 rfl) rfl) ?_
    refine J.z (oO rfl rfl rfl (by first | omega | (simp only [List.length_append]; omega) | (simp; omega))) ?_
    refine jL 4 ?_
    have N := XM G
    rw [Z.2, if_pos rfl] at N
    refine jL 5 ?_
    refine Ej.keep (Keeps.d Keeps.n) ?_
    refine Ej.round (j + 1) ⟨by omega, OV Q G Z.1⟩ (by omega) ⟨rfl, by rw [N]; rfl, rfl, trivial⟩ rfl rfl
   have b3 := b2 a0
   refine pI (fun a1 => ?_) (fun a1 => ?_)
   ·have b4 := bne_iff_ne.1 a1
    refine jR (fun a2 al => ?_) (fun a2 al => ?_)
    ·have b5 := bne_iff_ne.1 a2
     have a3 := b7i Q G (b7e (by omega))
     rw [a3]
     refine jL 1 ?_
     refine Ej.a2X rfl ?_
     refine jL 3 ?_
     exact A () _ _ _ trivial ⟨rfl, trivial⟩ rfl rfl
    have b5 : (c.toNat : Int) = 45 := by have h := a2; rw [bne_eq_false_iff_eq] at h; exact h
    refine jL 3 ?_
    have Z := b4c (c := c) (by omega)
    have N := XM G
    rw [Z.2, if_neg (by decide), List.append_nil] at N
    refine jL 5 ?_
    refine Ej.round (j + 1) ⟨by omega, OV Q G Z.1⟩ (by omega) ⟨rfl, by rw [N]; rfl, rfl, trivial⟩ rfl rfl
   have b4 : (c.toNat : Int) = 32 := by have h := a1; rw [bne_eq_false_iff_eq] at h; exact h
   refine jL 9 ?_
   have Z := b4c (c := c) (by omega)
   have N := XM G
   rw [Z.2, if_neg (by decide), List.append_nil] at N
   refine jL 5 ?_
   refine Ej.round (j + 1) ⟨by omega, OV Q G Z.1⟩ (by omega) ⟨rfl, by rw [N]; rfl, rfl, trivial⟩ rfl rfl
  refine pI (fun a4 => ?_) (fun a4 => ?_)
  ·have b6 := mD a4
   refine pI (fun a5 => ?_) (fun a5 => ?_)
   ·have b7 := mD a5
    refine jL 8 ?_
    exact A _ _ _ _ ⟨fun h => by first | omega | (simp at h; omega) | (cases h; done), fun h => by first | omega | (simp at h; omega) | (cases h; done)⟩ ⟨rfl, rfl, rfl, rfl, rfl, trivial⟩ rfl rfl
   have b7 := nI a5
   refine pI (fun a6 => ?_) (fun a6 => ?_)
   ·have ai := lN a6
    refine jL 4 ?_
    exact A _ _ _ _ ⟨fun h => by first | omega | (simp at h; omega) | (cases h; done), fun h => by first | omega | (simp at h; omega) | (cases h; done)⟩ ⟨rfl, rfl, rfl, rfl, rfl, trivial⟩ rfl rfl
   have ai := lX a6
   refine jL 4 ?_
   exact A _ _ _ _ ⟨fun h => by first | omega | (simp at h; omega) | (cases h; done), fun h => by first | omega | (simp at h; omega) | (cases h; done)⟩ ⟨rfl, rfl, rfl, rfl, rfl, trivial⟩ rfl rfl
  have b6 := nI a4
  refine pI (fun a7 => ?_) (fun a7 => ?_)
  ·have ai := lN a7
   refine jL 4 ?_
   exact A _ _ _ _ ⟨fun h => by first | omega | (simp at h; omega) | (cases h; done), fun h => by first | omega | (simp at h; omega) | (cases h; done)⟩ ⟨rfl, rfl, rfl, rfl, rfl, trivial⟩ rfl rfl
  have ai := lX a7
  refine jL 4 ?_
  exact A _ _ _ _ ⟨fun h => by first | omega | (simp at h; omega) | (cases h; done), fun h => by first | omega | (simp at h; omega) | (cases h; done)⟩ ⟨rfl, rfl, rfl, rfl, rfl, trivial⟩ rfl rfl
 have a3 := b4w (s := s) (j := j) (by omega) Q
 rw [a3]
 refine jL 4 ?_
 exact A () _ _ _ trivial ⟨rfl, trivial⟩ rfl rfl
end Go.Proofs.YtekmeaoblpfnpaaGreatDoor
end
namespace Ke
open Go.Lib (decodeL decodeN)
def opens (t:Bs):Prop:=t=[]∨∃b r,t=b::r∧b.toNat / 64≠2
theorem AA{b r}(h:b.toNat / 64≠2):opens (b::r):= .inr ⟨b,r,rfl,h⟩
theorem a2D:opens []:= .inl rfl
theorem a2b{s t}(h:opens s)(A:s≠[]):opens (s++t):=by
 rcases h with h|⟨b,r,rfl,h⟩
 ·exact absurd h A
 exact .inr ⟨b,r++t,rfl,h⟩
theorem a8D{s t}(h:opens s)(A:opens t):opens (s++t):=by grind [a2b]
theorem VH l t (hl : l ≠ []) (ht : opens t) : decodeL (l ++ t) = decodeL l := by
  rw [Go.Lib.decodeL_N, Go.Lib.decodeL_N]
  rcases ht with rfl | ⟨b, r, rfl, hb⟩
  · rw [List.append_nil]
  rcases l with _ | ⟨a0, _ | ⟨a1, _ | ⟨a2, _ | ⟨a3, l⟩⟩⟩⟩
  · exact absurd rfl hl
  all_goals
    simp only [List.cons_append, List.nil_append, List.length_cons, List.length_nil, List.length_append, List.getD_cons_zero, List.getD_cons_succ, List.getD_nil]
    unfold decodeN
    first
      | (have e1 : (0 + 1 < 0 + 1) = False := by simp
         simp [hb, Nat.lt_irrefl])
      | (simp [hb, Nat.lt_irrefl]; done)
      | skip
theorem UW:∀(n:Nat) (s t:Bs),s.length≤n→opens t→runes (s++t)=runes s++runes t
 |_,[],t,_,_=>by simp[b1q]
 |0,a::r,t,h,_=>by simp at h
 |n+1,a::r,t,h,ht=>by
  have A:a::r≠[]:=sI;have M:=Go.Lib.decodeL_width (a::r);have G:=Go.Lib.decodeL_le (a::r) A;rw[AX (s:=(a::r)++t) sI,AX A,VH _ _ A ht,List.drop_append_of_le_length G,UW n _ t (by simp only[aQ];simp only[aI]at h;simp only[aI];omega) ht];rfl
theorem a2s s t (h:opens t):runes (s++t)=runes s++runes t:=UW _ s t (aS _) h
theorem a5B{c} r (h:c.toNat<128):runes (c::r)=c.toNat::runes r:=by
 rw[AX sI,Go.Lib.decodeL_ascii c r h];rfl
theorem toByte{n}(h:n<256):(bG n).toNat=n:=by simp;omega
theorem enc1{c}(h:c<128):enc c=[bG c]:=by
 unfold enc;rw[zF h]
theorem enc2{c}(h1:128≤c)(h:c<2048):enc c=[bG (192+c / 64),bG (128+c % 64)]:=by
 unfold enc;rw[zD oM,zF h]
theorem enc3{c}(h1:2048≤c)(h:wP c):enc c=[bG (224+c / 4096),bG (128+c / 64 % 64),bG (128+c % 64)]:=by grind [wP,enc]
theorem KG{c}(h:wP c):opens (enc c)∧enc c≠[]:=by
 by_cases h1:c<128
 ·rw[enc1 h1];exact⟨AA (by rw[toByte oM];omega),sI⟩
 by_cases h2:c<2048
 ·rw[enc2 oM h2];exact⟨AA (by rw[toByte oM];omega),sI⟩
 rw[enc3 oM h];unfold wP at h;exact⟨AA (by rw[toByte oM];omega),sI⟩
theorem VO{c}(h:wP c):decodeL (enc c)=(c,(enc c).length):=by
 rw[Go.Lib.decodeL_N]
 by_cases h1:c<128
 ·rw[enc1 h1];simp only[aI,dX,dG,dH,fA];rw[toByte oM];unfold decodeN;rw[zF h1]
 by_cases h2:c<2048
 ·rw[enc2 oM h2];simp only[aI,dX,dG,dH,fA];rw[toByte oM,toByte oM];unfold decodeN;rw[zD oM,zF ⟨oM,oM,oM⟩,zF oM];refine fU ?_ rfl;show _=c;simp only;omega
 rw[enc3 oM h];unfold wP at h;simp only[aI,dX,dG,dH,fA];rw[toByte oM,toByte oM,toByte oM];unfold decodeN;rw[zD oM,zD oM,zF ⟨oM,⟨oM,oM⟩,oM,oM⟩,zF ⟨oM,oM⟩];refine fU ?_ rfl;show _=c;simp only;omega
theorem a1m{c}(h:wP c):runes (enc c)=[c]:=by
 rw[AX (KG h).2,VO h,List.drop_eq_nil_of_le (aS _)];rfl
def encs (l:List Nat):Bs:=l.flatMap enc
theorem YA:∀(l:List Nat),(∀c∈l,wP c)→opens (encs l)
 |[],_=>a2D
 |c::_r,h=>a2b (KG (h c (.head _))).1 (KG (h c (.head _))).2
theorem ZC:∀(l:List Nat),(∀c∈l,wP c)→runes (encs l)=l
 |[],_=>rfl
 |c::r,h=>by
  show runes (enc c++encs r)=_;rw[a2s _ _ (YA r fun d A=>h d (.tail _ A)),a1m (h c (.head _)),ZC r fun d A=>h d (.tail _ A)];rfl
end Ke
namespace Ke
