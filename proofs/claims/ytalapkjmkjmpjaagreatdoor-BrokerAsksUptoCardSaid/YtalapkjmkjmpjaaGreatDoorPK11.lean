/-
  Own texts on the laws of the seat, joined: the logic, and contracts of functions. Conditions: none.
-/
import Derived.Test.YtalapkjmkjmpjaaGreatDoorNmK
import Derived.Test.YtalapkjmkjmpjaaGreatDoorPK10
set_option linter.all false
set_option maxRecDepth 100000
set_option maxHeartbeats 40000000
open Go.Proofs.Tryz renaming prog -> aA,b1L -> dP
open Bool renaming noConfusion -> aB
open Go.Sx.Keeps renaming d -> aC,r -> aS,k -> bF,n -> dI
open Go.Sx.AX renaming c -> aF,z -> aP,s -> bP
open Go.Lib renaming compact -> aG
open Ix renaming keyOf -> aH,a0e -> bD,JD -> bI,plK -> bT,JW -> cZ,cnt -> dA,scan -> dH,Pl -> dJ,JB -> dK,MV -> dS,FK -> dZ
open Go.Sx.J renaming z -> aI,op -> aK,ez -> bH
open Go.Sx.Ej renaming keep -> aJ,SG -> bJ,rounds -> bQ,round -> bU,pull -> dR
open List.Sublist renaming cons -> aN,refl -> aY
open Go.Sx.yY renaming toPure -> aO
open Go.Sx.Enters renaming of -> aQ
open Go.Sx.yX renaming YR -> aT,RU -> dX
open Go.Sx.Cj renaming cond -> aU,ret -> cO,rounds -> dB,EX -> dL,loop -> dM
open Classical renaming byContradiction -> aV
open Eq renaming trans -> aW,symm -> bG
open Go.Sx.Rj renaming succ -> aX
open Go.Sx.BL renaming z -> aZ,s -> dF
open Std renaming lt_irrefl -> bC,lt_of_le_of_ne -> bK,lt_trans -> dD
open Go.Sx.GU renaming part -> bM,none -> bW
open Go.Sx.Pure renaming of_same -> bV
open Go.Value renaming int -> bY,oneCell' -> dN
open Bk renaming Idn -> bZ,a4k -> dY
open Go.Sx.Pull renaming z -> dG,s -> eF
open List renaming replicate -> dQ
open Go.Sx.Src renaming slice -> dU
open Go.Sx.JA renaming zt -> dV
open Prod renaming ext -> dW
section
namespace Go.Proofs.YtalapkjmkjmpjaaGreatDoor
open _root_.Go.Proofs.Tryz
open Go Go.Sx
theorem c9u{I L t xs}(A:RD I xs ((Ix.LX L t).getD []))(h:xs.find? (fun x=>decide (x.1.name=dS))=none):cZ L t=[]:=by
 rw[a5R,←A.1,a1J,h];rfl
theorem c8x{I L t xs x}(A:RD I xs ((Ix.LX L t).getD []))(h:xs.find? (fun x=>decide (x.1.name=dS))=some x):cZ L t=x.1.key:=by
 rw[a5R,←A.1,a1J,h];rfl
abbrev isT (x:VW):Bool:=decide (x.1.name=dS)
abbrev EI (x:List UInt8×Nat):List UInt8×Int:=(x.1,(x.2:Int))
abbrev b9p (l:List (List UInt8×Nat)) (v:Value) (H:HL):Prop:=QA 56 BH (l.map EI) v H
def ZC (n b:List UInt8) (p:dJ):Bool:=decide (p.1=n) && !decide (p.2<b)
def WZ (L:Ix.Ix) (n b:List UInt8) (vis:ML dJ):List (List UInt8×Nat):=(vis.filter fun x=>ZC n b x.1).map fun x=>(x.1.2,(bI L n x.1.2).length)
theorem QI L n b vis x:WZ L n b (vis++[x])=WZ L n b vis++if ZC n b x.1=true then[(x.1.2,(bI L n x.1.2).length)]else[]:=by
 unfold WZ;rw[xR,wG]
 by_cases h:ZC n b x.1=true
 ·rw[zF h];simp[h]
 rw[zD h];simp[h]
theorem c8T L n b vis:(WZ L n b vis).length≤vis.length:=by
 unfold WZ;rw[wO];exact wP _ _
structure TB where
  vis:ML Ix.Pl
  rest:ML Ix.Pl
  g:Gs
theorem c7V{I:Heap}{b l c N f}(h:CS l c N f)(O:∀q∈setH b l c N,I q.1=some q.2){x}(Q:x∈l):∃A m k,x.2.1= .map (some A)∧I A=some (zZ AB m k)∧MS m k∧m≠[]∧∀t,AQ m t=cv (f x.1 t):=by
 have h1:kvp x∈N.map nvp:=by rw[←h.vals];exact vT Q
 obtain⟨⟨a,A,m,k⟩,G,M⟩:=vU.1 h1;have Z:a=x.1:=zC (·.1) M;have e2:Value.map (some A)=x.2.1:=zC (·.2) M;subst Z;obtain⟨g1,g2,g3⟩:=h.inn _ G;exact⟨A,m,k,e2.symm,O (A,_) (.tail _ (vU.2 ⟨_,G,rfl⟩)),g1,g2,g3⟩
theorem b8s{l:ML dJ}{c:Nat}{N:SL dJ Ix.Rec}{f:dJ→Ix.Rec→Nat}(h:CS l c N f)(p:dJ):p∈l.map (·.1)↔∃t,f p t≠0:=by
 rw[h.keys];constructor
 ·intro A;obtain⟨e,G,rfl⟩:=vU.1 A;obtain⟨_,M,O⟩:=h.inn e G;obtain⟨⟨t,v,n⟩,r,Q⟩:=List.exists_cons_of_ne_nil M;refine⟨t,fun Z=>?_⟩;have h2:=O t;rw[Z]at h2;have h3:AQ e.2.2.1 t=none:=h2;exact IX.1 h3 (by rw[Q];exact .head _)
 rintro⟨t,ht⟩;exact aV fun g=>ht (h.out p g t)
theorem keys_le{L l c N}(h:CS l c N (dA bT L))(Q:dK L)(Z:L.length≤100000)(hv:∀e∈L,LD e.2):l.length≤1000000000000:=by
 have h1:(l.map (·.1)).length≤(L.flatMap fun e=>bT e.2).length:=by
  refine ZT h.ms.1 fun p hp=>?_;obtain⟨e,A,G⟩:=(Ix.a3i Q).1 ((b8s h p).1 hp);exact vV.2 ⟨e,A,G⟩
 have h2:∀M:Ix.Ix,(∀e∈M,LD e.2)→(M.flatMap fun e=>bT e.2).length≤M.length*10000000:=by
  intro M
  induction M with
  |nil=>intro _;simp
  |cons a r ih=>
   intro O;have:=ih fun e A=>O e (.tail _ A);have h3:=(O a (.head _)).k;rw[xO,wV,wU,Nat.add_mul];omega
 rw[wO]at h1;exact FD (FD h1 (h2 L hv)) (sU 10000000 Z)
theorem b5X{a b:List UInt8}(h:¬b<a)(A:a≠b):a<b:=bK (Std.not_lt.1 h) A
theorem c5h{L l c N}(h:CS l c N (dA bT L))(hs:dK L){n b vis}(hp:vis.Perm l){ls}(Z:ls.Perm ((WZ L n b vis).map EI))(ho:ls.Pairwise fun p q=>¬q.1<p.1):ls=((Ix.EW L n b).map fun k=>(k,(bI L n k).length)).map EI:=by
 have G:∀x∈vis.filter (fun x=>ZC n b x.1),x.1.1=n∧¬x.1.2<b:=fun x A=>by
  have:=(vW.1 A).2;unfold ZC at this;rw[yP,zG,Bool.not_eq_true',decide_eq_false_iff_not]at this;exact this
 have a2:((WZ L n b vis).map (·.1)).Nodup:=by
  unfold WZ;rw[wE];have h1:((vis.filter fun x=>ZC n b x.1).map (·.1)).Nodup:=((hp.map _).nodup_iff.2 h.ms.1).sublist (List.filter_sublist.map _);rw[vI,uV]at h1 ⊢;refine(uX.2 fun {x y} M=>?_);have A:=G x (M.subset (.head _));have O:=G y (M.subset (.tail _ (.head _)));have a3:=uX.1 h1 M;exact fun e=>a3 (dW (A.1.trans O.1.symm) e)
 have Q:∀x∈ls,x.2=((bI L n x.1).length:Int):=fun x A=>by
  obtain⟨y,O,rfl⟩:=vU.1 (Z.mem_iff.1 A);obtain⟨z,_,rfl⟩:=vU.1 O;rfl
 have hk:(ls.map (·.1)).Perm ((WZ L n b vis).map (·.1)):=by
  have:=Z.map (·.1)
  rwa [wE]at this
 have a0:Ke.Inc (ls.map (·.1)):=by
  unfold Ke.Inc;have h1:=hk.nodup_iff.2 a2;rw[vI,uV]at h1;rw[uV];exact(List.pairwise_and_iff.2 ⟨ho,h1⟩).imp fun {x y} ⟨h2,h3⟩=>b5X h2 h3
 have a1:=Ix.WB hs (n:=n) (b:=b) (ls:=ls.map fun x=>(x.1,x.2.toNat)) (by rw[wE];exact a0) (fun k=>?_) (fun x A=>?_)
 ·rw[←a1,wE]
  conv=>lhs;rw[←List.map_id ls]
  refine List.map_congr_left fun x A=>?_;have:=Q x A;show x=(x.1,((x.2.toNat:Nat):Int));refine dW rfl ?_;show x.2=_;omega
 ·rw[wE];show k∈ls.map (·.1)↔_;rw[hk.mem_iff,←b8s h];unfold WZ;rw[wE];constructor
  ·intro hm;obtain⟨x,A,rfl⟩:=vU.1 hm;obtain⟨h1,h2⟩:=G x A;refine⟨h2,?_⟩;show(n,x.1.2)∈_;rw[←h1,←(hp.map (·.1)).mem_iff];exact vT (vW.1 A).1
  rintro⟨h1,h2⟩;rw[←(hp.map (·.1)).mem_iff]at h2;obtain⟨x,A,he⟩:=vU.1 h2;refine vU.2 ⟨x,vW.2 ⟨A,?_⟩,?_⟩
  ·unfold ZC;rw[he,zH rfl,yJ,zI h1];rfl
  show x.1.2=k;rw[he]
 obtain⟨y,O,rfl⟩:=vU.1 A;have:=Q y O;show y.2.toNat=_;rw[this];rfl
theorem c0T ib mb m k0 wm km L t I (a4:LD ((Ix.LX L t).getD []))(a5:I ib=some (yV 142 [.map (some mb),.map wm,.map km]))(a1:I mb=some (zZ AB m k0))(ad:MS m k0)(a6:YB I m L):Pure aA 119 [ptr ib 0,AB t] I (str (cZ L t)):=by
 refine aO ?_;obtain⟨vv,M,xs,N,O⟩:=a6.at t;have ae:=O.len;have af:=a4.1;refine zN func119 fun w0 _=>?_;refine yU 3 ?_;intro _ _;refine yU 14 ?_;refine dL [0] [] 8 kR ?_;have ac:=a5;have a0:=a1;refine yU 5 ?_;refine dV 5 rfl (BJ (kv:=AB) (l:=m) (a:=t) rfl rfl rfl rfl UE FQ a0R (dX a0)) ?_;refine JA.ez 13 vv rfl M ?_;refine zO (a0J xs _ isT _ [] oM _ N.row O.2 (fun x hx=>by obtain⟨p9,c9,G⟩:=KG (O.2 x hx);exact c6a x p9 _ c9 G _)) ?_;refine yZ ?_ ?_<;>intro Q a2
 ·have A:xs.find? isT=none:=((QJ isT xs).resolve_right (fun⟨k,x,h,_⟩=>by have G:=DK Q;rw[h]at G;omega)).2;refine zV ?_;rw[c9u O A];exact rT
 obtain⟨k,x,a7,Z,A⟩:=(QJ isT xs).resolve_left (fun h=>by have G:=DN Q;rw[h.1]at G;exact G dE);have a3:=(xC.1 Z).1;obtain⟨_,a8,a9,_,aa⟩:=id N;rw[a9]at M ⊢;obtain⟨rb,_,rfl,ab⟩:=aa (zK a3);rw[a7];refine yU 3 ?_;refine dL [0] [] 11 kR ?_;refine yU 5 ?_;refine dV 5 rfl (BJ (kv:=AB) (l:=m) (a:=t) rfl rfl rfl rfl UE FQ a0R (dX a1)) ?_;refine JA.ez 22 (.slice (some ⟨rb,0,none⟩) xs.length a8) rfl M ?_;refine zW (0+k*3) ?_;refine dV 8 rfl (zY (off':=0+k*3+1) a6w BD) ?_;refine dV 9 rfl (BU rfl rfl DU (dX ab) (BO a1c (o:=0) rfl Z 1 dE)) ?_;refine zV ?_;rw[c8x O A];exact rT
theorem c3R G O Q t I (M:I G=some (yV 142 [.map none,.map O,.map Q])):Pure aA 119 [ptr G 0,AB t] I (str []):=by
 refine aO ?_;refine zN func119 fun w0 _=>?_;refine yU 3 ?_;intro _ _;refine yU 14 ?_;refine dL [0] [] 8 kR ?_;have N:=M;refine yU 5 ?_;refine dV 5 rfl (LM (kv:=AB) (a:=t) rfl rfl rfl rfl UE FQ a0R) ?_;refine zO (a0J [] _ isT _ [] dE _ zJ.nil (fun x A=>by cases A) (fun x A=>by cases A)) ?_;refine yU 1 ?_;refine JA.ez 14 (i64 (-1)) rfl rfl ?_;refine zV ?_;exact rT
theorem c6O A L t I (G:XC I A L):Pure aA 119 [ptr A 0,AB t] I (str (cZ L t)):=by
 obtain⟨_,M,N,O,hV,-,-⟩:=G.parts;rcases hV with⟨rfl,rfl⟩|⟨b,l,c,rfl,Q,Z,hb⟩
 ·exact c3R A M N t I O
 exact c0T A b l c M N L t I (b2o G t) O hb Q Z
theorem b0L a n c (A:n≤c) I:Pure aA 63 [.slice a n c] I (.slice a n n):=by
 refine aO ?_;refine zN func63 fun w0 _=>?_;refine yU 12 ?_;refine aI (b1w (k:=n) (m:=n) rfl rfl rfl rfl RN NQ (tH _) A) ?_;refine zM ?_;exact rT
theorem c1c{α:Type}{T:TypeId}{f:α→List Value}{l:List α}{v:Value}{H:HL}(h:QA T f l v H):∃a c,v= .slice a l.length c∧l.length≤c:=by
 rcases h with⟨rfl,rfl,rfl⟩|⟨b,c,sp,rfl,A,rfl⟩
 ·exact⟨none,0,rfl,tH _⟩
 exact⟨_,c,rfl,A⟩
theorem b4Z{α:Type}{T:TypeId}{f:α→List Value}{l:List α}{a:Option Addr}{c:Nat}{H:HL}(h:QA T f l (.slice a l.length c) H){k:Nat}(G:k≤l.length):QA T f (l.take k) (.slice a k k) H:=by
 rcases h with⟨rfl,A,rfl⟩|⟨b,c,sp,A,M,rfl⟩
 ·cases A;have:k=0:=by simpa using G
  subst this;exact .inl rT
 cases A;refine .inr ⟨b,k,(l.drop k).flatMap f++sp,by rw[wI,sW G],by rw[wI];omega,?_⟩;rw[←yE,←xP,uD]
theorem c6G{L n s most ls a c v H}(A:ls=((Ix.EW L n (aH n s)).map fun k=>(k,(bI L n k).length)).map EI)(h:QA 56 BH ls v H)(G:v= .slice a ls.length c):b9p (dH L n s most) (.slice a (min ls.length most.toNat) (min ls.length most.toNat)) H:=by
 subst G;have h1:=b4Z h (sV ls.length most.toNat);have h2:ls.take (min ls.length most.toNat)=(dH L n s most).map EI:=by
  rw[←Ix.b1I,List.map_take,←A];rcases Nat.le_total ls.length most.toNat with g|g
  ·rw[sW g,tY,tX g]
  rw[Nat.min_eq_right g]
 rw[h2]at h1;exact h1
theorem c8H{L}(G:dK L){m k}(M:MS m k){p}(A:∀t,AQ m t=cv (dA bT L p t)){n}(N:p.1=n):((m.length:Nat):Int)=((bI L n p.2).length:Int):=by
 subst N;have h:=Ix.c6F G (n:=p.1) (k:=p.2) (ts:=m.map (·.1)) M.1 fun t=>by
  constructor
  ·intro h1;have h2:AQ m t≠none:=fun g=>IX.1 g h1;rw[A]at h2;exact fun g=>h2 (by rw[show dA bT L p t=0 from g];rfl)
  intro h1;refine aV fun g=>?_;have h2:=IX.2 g;rw[A,c1M h1]at h2;cases h2
 rw[wO]at h;rw[h]
theorem a9u(n:Nat) most:(if (if (0:Int)>most then(0:Int)else most)<(n:Int)then(if (0:Int)>most then(0:Int)else most)else(n:Int))=((min n most.toNat:Nat):Int):=by
 repeat(first|omega|split)
theorem c4b ib kb vm wm l c N L n s (hs:s.length≤100000000) most I (O:dK L)(Q:CS l c N (dA bT L))(ao:l.length≤1000000000000)(aq:I ib=some (yV 142 [.map vm,.map wm,.map (some kb)]))(hI:∀q∈setH kb l c N,I q.1=some q.2):yY aA 281 [ptr ib 0,str n,str s,i64 most] I [] (fun e _ H'=>∃v,e= .returned v∧b9p (dH L n s most) v H'):=by
 have Z:I kb=some (zZ GH l c):=hI (kb,_) (.head _);refine zN func281 fun w0 _=>?_;refine zO (a7P n s hs _) ?_;refine yU 15 ?_;refine aK rfl (MJ (kv:=GH) (l:=l) rfl rfl rfl rfl KJ (aT Z) ?_);intro b2 _;refine yU 3 ?_;refine dM (ι:=TB) (fun y=>(y.vis++y.rest).Perm l∧AL w0.heap.size 2 (WZ L n (aH n s) y.vis).length (((WZ L n (aH n s) y.vis).map EI).flatMap BH) y.g) (fun y=>y.rest.length) (fun y=>[(1,str n),(3,i64 most),(9,str (aH n s)),(10,gV (WZ L n (aH n s) y.vis).length y.g),(22,ptr b2 0)]) (fun y=>_) (fun y=>(b2,XZ kb c y.vis c)::gH 56 (((WZ L n (aH n s) y.vis).map EI).flatMap BH) y.g) ⟨[],l,none⟩ ⟨.refl _,rfl,rfl⟩ rT rfl rfl ?_;rintro⟨vis,rest,g⟩ ⟨hp,hg⟩;dsimp only at hp hg ⊢;have ab:=hp.length_eq;rw[wV]at ab;have ap:=c8T L n (aH n s) vis;refine yU 2 ?_;refine aK rfl (NW (kv:=GH) (l:=l) 0 rfl rfl rfl rfl rfl (aT Z) Q.ms.2.2 (tH _) Q.ms.2.1 hp ?_ ?_)
 ·rintro x G H9 a0 M ⟨-,hset⟩;simp only[uM,uN]at hset;subst hset;obtain⟨mb,m,k,ae,af,ag,_,ah⟩:=c7V Q hI (M.mem_iff.1 (vZ _ (vY _ (.head _))));refine yU 10 ?_;refine aI (RQ (kv:=GH) (l:=l) rfl rfl (yX.at 0 rfl) (aT Z) (M.mem_iff.1 (vZ _ (vY _ (.head _)))) Q.ms.2.1) ?_;refine yU 2 ?_;refine bH 27 (.map (some mb)) rfl ae ?_;refine yU 1 ?_;intro _ _;refine DZ ?_ ?_<;>intro a1 ac
  ·have a2:x.1.1=n:=BP a1;refine yU 3 ?_;refine J.zg (b2A rfl rfl rfl) ?_;refine DF ?_ ?_<;>intro a3
   ·have A:ZC n (aH n s) x.1=true:=by unfold ZC;rw[zH a2,yJ];exact a3
    refine yU 5 ?_;refine aI (WV (kv:=AB) (l:=m) rfl rfl JL (aT af)) ?_;refine bH 42 (i64 ((bI L n x.1.2).length:Int)) rfl (zC i64 (c8H O ag ah a2)) ?_;refine aI (zL (pl:= #[(0,1),(1,1)]) rfl rfl QK rfl a0B (fun w=>by simp[AZ,BD]) (bM rfl rfl rfl (aF aP) (bM rfl rfl rfl (bP (aF aP)) bW))) ?_;refine aK rfl (CY RN NQ QK (DC.agg rfl DC.none) ?_);intro _ _;refine aK rfl (zT (by':=23) [_,_,_] rfl rfl rfl rfl rfl RN (.inr ⟨_,RN⟩) kR NQ QK rfl hg rfl (dU (yX.at 0 rfl) rfl rfl rfl) oM ?_);intro g8 ai;refine yU 3 ?_;refine aJ (aC (aC (bF aS))) ?_;refine bU ⟨vis++[x],G,g8⟩ ⟨M,by dsimp only;rw[QI,zF A,wV,wG,xP];exact ai⟩ (by have h:=a0.length_eq;simp only[wU]at h;dsimp only;omega) ⟨rfl,rfl,rfl,by dsimp only;rw[QI,zF A,wV];rfl,rfl,trivial⟩ rfl (by dsimp only;rw[QI,zF A,wG,xP];rfl)
   have A:¬ZC n (aH n s) x.1=true:=by unfold ZC;rw[zH a2,yJ];exact fun e=>aB (e.symm.trans a3)
   refine yU 2 ?_;refine aJ (aC (bF aS)) ?_;refine bU ⟨vis++[x],G,g⟩ ⟨M,by dsimp only;rw[QI,zD A,yD];exact hg⟩ (by have h:=a0.length_eq;simp only[wU]at h;dsimp only;omega) ⟨rfl,rfl,rfl,by dsimp only;rw[QI,zD A,yD];rfl,rfl,trivial⟩ rfl (by dsimp only;rw[QI,zD A,yD])
  have A:¬ZC n (aH n s) x.1=true:=by unfold ZC;rw[zI (CB a1)];exact yK
  refine yU 10 ?_;refine aJ (aC (bF aS)) ?_;refine bU ⟨vis++[x],G,g⟩ ⟨M,by dsimp only;rw[QI,zD A,yD];exact hg⟩ (by have h:=a0.length_eq;simp only[wU]at h;dsimp only;omega) ⟨rfl,rfl,rfl,by dsimp only;rw[QI,zD A,yD];rfl,rfl,trivial⟩ rfl (by dsimp only;rw[QI,zD A,yD])
 intro ad;refine yU 11 ?_;have aj:vis.Perm l:=by rw[ad,yD]at hp;exact hp
 have a6:AL w0.heap.size 2 ((WZ L n (aH n s) vis).map EI).length (((WZ L n (aH n s) vis).map EI).flatMap BH) g:=by rw[wO];exact hg
 refine yU 2 ?_;refine bH 46 (gV ((WZ L n (aH n s) vis).map EI).length g) rfl (by rw[wO]) ?_;refine RS [_] (a6X ((WZ L n (aH n s) vis).map EI) g a6 (by rw[wO];omega) _) ?_;rintro _ _ H9 _ ⟨ls,a7,al,h,rfl⟩;cases h;have am:=c5h Q O aj a7 al;have a4:((WZ L n (aH n s) vis).map EI).length=ls.length:=a7.length_eq.symm;have an:AL w0.heap.size 2 ls.length (ls.flatMap BH) g:=by rw[←a4];exact PN a6 (by rw[BZ DW,BZ DW,a4])
 refine yU 3 ?_;obtain⟨a5⟩:Nonempty (QA 56 BH ls (gV ls.length g) (gH 56 (ls.flatMap BH) g)):=⟨QA.c7f DW dE rfl an⟩;obtain⟨sa,sc,a8,a9⟩:∃a c,gV ls.length g= .slice a ls.length c∧ls.length≤c:=c1c a5;have aa:gV (WZ L n (aH n s) vis).length g= .slice sa ls.length sc:=by rw[←a8,←a4,wO]
 refine yU 2 ?_;refine bH 48 (.slice sa ls.length sc) rfl aa ?_;refine yU 1 ?_;refine bH 49 (.slice sa ls.length sc) rfl aa ?_;refine yU 2 ?_;refine aI (IE rfl rfl rfl) ?_;refine aI (LJ rfl rfl rfl) ?_;refine bH 53 (i64 ((min ls.length most.toNat:Nat):Int)) rfl (zC i64 (a9u _ _)) ?_;refine aI (IG (k:=(min ls.length most.toNat)) rfl rfl rfl RN NQ rfl (FD (sV _ _) a9)) ?_;refine zO (b0L sa (min ls.length most.toNat) sc (FD (sV _ _) a9) _) ?_;refine yU 4 ?_;refine aJ (H':=gH 56 (ls.flatMap BH) g) (List.sublist_append_right [_] _) ?_;refine zM ?_;exact⟨_,rfl,c6G am a5 a8⟩
theorem c3b A N O n s (Q:s.length≤100000000) most I (Z:I A=some (yV 142 [.map N,.map O,.map none])):yY aA 281 [ptr A 0,str n,str s,i64 most] I [] (fun e _ H'=>e= .returned (.slice none 0 0)∧H'=[]):=by
 refine zN func281 fun w0 _=>?_;refine zO (a7P n s Q _) ?_;refine yU 15 ?_;refine aK rfl (OD rfl rfl rfl rfl KJ ?_);intro _ _;refine yU 3 ?_;refine dB 1 ?_;refine aX ?_;refine yU 2 ?_;refine aK rfl (QM 0 rfl rfl rfl rfl rfl ?_);refine RS [_] (a6X (base:=0) [] none rT dE _) ?_;rintro _ _ _ _ ⟨ts,G,_,h,rfl⟩;cases h;have M:=G.eq_nil;subst M;refine yU 8 ?_;refine aI (IE rfl rfl rfl) ?_;refine aI (LJ rfl rfl rfl) ?_;refine bH 53 (i64 ((0:Nat):Int)) rfl (zC i64 (a9u 0 most |>.trans (by rw[Nat.zero_min]))) ?_;refine aI (IG (k:=0) rfl rfl rfl RN NQ rfl (tH _)) ?_;refine zO (b0L none 0 0 (tH _) _) ?_;refine zV ?_;exact rT
theorem c1b{L}(A:dK L)(G:∀p t,dA bT L p t=0) n s most:dH L n s most=[]:=by
 have h:=Ix.WB A (n:=n) (b:=aH n s) (ls:=[]) List.Pairwise.nil (fun k=>⟨fun h=>(by cases h),fun⟨_,t,M⟩=>absurd (G _ t) M⟩) (fun x N=>by cases N);rw[←Ix.b1I,←h,List.take_nil]
theorem c8h G L n s (M:s.length≤100000000) most I (A:XC I G L):yY aA 281 [ptr G 0,str n,str s,i64 most] I [] (fun e _ H'=>∃v,e= .returned v∧b9p (dH L n s most) v H'):=by
 obtain⟨O,Q,_,Z,-,-,hK⟩:=A.parts;have hv:∀e∈L,LD e.2:=by
  obtain⟨o,h1,_⟩:=A;cases o with
  |none=>rw[show L=[] from h1];intro e he;cases he
  |some s=>exact IY.vok h1
 rcases hK with⟨rfl,hz⟩|⟨b,l,c,N,rfl,hN,hq⟩
 ·rw[c1b A.JC hz];exact(c3b G O Q n s M most I Z).mono fun e _ H' _ ⟨h1,h2⟩=>⟨_,h1,.inl ⟨rfl,rfl,h2⟩⟩
 exact c4b G b O Q l c N L n s M most I A.JC hN (keys_le hN A.JC A.big hv) Z hq
theorem c4R n s (M:s.length≤100000000) I:yY aA 339 [.pointer none,str n,str s] I [] (fun e _ H'=>e= .returned (.slice none 0 0)∧H'=[]):=by
 refine zN func339 fun w0 _=>?_;refine zX (VR s oM _) ?_;intro _ _ _ _ A;obtain⟨_,h,G,rfl⟩:=A;cases h;obtain⟨wp,_,rfl⟩:=KG G;refine zM ?_;exact rT
theorem b9o n s (M:s.length≤100000000) I:yY aA 274 [.pointer none,str n,str s] I [] (fun e _ H'=>e= .returned (.slice none 0 0)∧H'=[]):=by
 refine zN func274 fun w0 _=>?_;refine yU 3 ?_;intro _ _;refine yU 1 ?_;intro _ _;refine zX (VR s oM _) ?_;intro _ _ _ _ A;obtain⟨_,h,G,rfl⟩:=A;cases h;obtain⟨wp,_,rfl⟩:=KG G;refine yU 1 ?_;intro _ _;refine zV ?_;exact rT
theorem c7X n s I:yY aA 272 [.pointer none,str n,str s] I [] (fun e _ H'=>e= .returned (.slice none 0 0)∧H'=[]):=by
 refine zN func272 fun w0 _=>?_;refine zM ?_;exact rT
theorem c4Y n s most I:yY aA 281 [.pointer none,str n,str s,i64 most] I [] (fun e _ H'=>e= .returned (.slice none 0 0)∧H'=[]):=by
 refine zN func281 fun w0 _=>?_;refine zM ?_;exact rT
theorem c4j t I:Pure aA 119 [.pointer none,AB t] I (str []):=by
 refine aO ?_;refine zN func119 fun w0 _=>?_;refine yU 3 ?_;intro _ _;refine zV ?_;exact rT
abbrev zQ (e:DT):Ix.Rec×List Ix.V:=(e.t,Ix.vals e.fs)
theorem a8y{es:List DT}{i e}(h:es[i]?=some e):bD ((es.take (i+1)).map zQ) []=Ix.OM e.t (Ix.vals e.fs) (bD ((es.take i).map zQ) []):=by
 rw[YU zQ h];unfold bD;rw[xM];rfl
def EU (I:Heap) (es:List DT) (v:Value):Prop:=zJ JG I es v∧∀e∈es,KC I e.fs e.v
theorem EU.mono{I G es v}(h:EU I es v)(A:Le I G):EU G es v:=⟨h.1.mono A,fun e M=>(h.2 e M).mono A⟩
structure BA where
  i:Nat
  J:Heap
  o:Option Ist
theorem a2X{e p n c}(h:e.v= .slice p n c):(JG e).all dN=true:=by unfold JG;rw[h];rfl
theorem c4k es v (ad:es.length≤1000)(a7:∀e∈es,RI e.fs) I (a1:EU I es v):yY aA 25 [v] I [] (fun e I' H'=>∃ib o,e= .returned (ptr ib 0)∧a0G I' o (bD (es.map zQ) [])∧H'=ixH ib o):=by
 obtain⟨p,c,rfl,_,-⟩:=id a1.1;refine zN func25 fun w0 _=>?_;refine yU 7 ?_;refine aI (zL (pl:= #[(0,1),(1,1),(2,1)]) rfl rfl zeroValue142 rfl underlying142 (fun w=>by simp[a2c,sizeOf140]) bW) ?_;refine yU 1 ?_;intro b1 _;refine yU 12 ?_;refine dM (ι:=BA) (fun y=>y.i≤es.length∧Le I y.J∧a0G y.J y.o (bD ((es.take y.i).map zQ) [])∧(bD ((es.take y.i).map zQ) []).length≤y.i) (fun y=>es.length-y.i) (fun y=>[(3,ptr b1 0),(8,.slice p es.length c),(9,i64 (es.length:Int)),(10,i64 (y.i:Int))]) (fun y=>y.J) (fun y=>ixH b1 y.o) ⟨0,_,none⟩ ⟨sQ _,Le.refl _,rfl,tH _⟩ rT rfl rfl ?_;rintro⟨i,_,o⟩ ⟨hi,G,M,a4⟩;dsimp only at hi G M a4 ⊢;have hE:=a1.mono G;refine yZ ?_ ?_<;>intro a8 a5
 ·have a2:i<es.length:=oM;obtain⟨O,A⟩:∃e,es[i]?=some e:=⟨_,AA a2⟩;have a3:=CJ A;obtain⟨⟨p1,c1,a9,_,hp⟩,N⟩:=id hE;cases a9;obtain⟨_,eo,_,_,_,_,rfl,Q,aa⟩:=hp (zK a2);have Z:=N O a3;clear N;obtain⟨_,_,ab,-,-⟩:=id Z.1;refine zW (eo+i*5) ?_;refine aI (CX isAgg47 NR (aT Q) (AY JQ aa A)) ?_;refine yU 1 ?_;intro _ _;refine aK rfl (DV 0 rfl rfl rfl rfl rfl (a2X ab) NR rfl rfl (aF (aF (aF (aF (aF aP))))) aZ ?_);refine RS [_] (d0E b1 o (bD ((es.take i).map zQ) []) O _ M oM (a7 O a3) Z) ?_;intro _ _ _ a0 ac;have G:=G.mono a0;have Q:=a0 _ _ Q;obtain⟨o1,h,a6,rfl⟩:=ac;cases h;refine yU 7 ?_;refine aJ (aC aS) ?_;refine bU ⟨i+1,_,o1⟩ ⟨dO,G,by dsimp only;rw[a8y A];exact a6,by dsimp only;rw[a8y A];have:=a3Z O.t (Ix.vals O.fs) (bD ((es.take i).map zQ) []);omega⟩ dO rT rfl rfl
 rw[tX (oM:es.length≤i)]at M;refine zM ?_;exact⟨_,o,rfl,M,rfl⟩
end Go.Proofs.YtalapkjmkjmpjaaGreatDoor
end
namespace Bk
def W (n:Int):Int:=(n+9223372036854775808) % 18446744073709551616-9223372036854775808
abbrev Ln:=List UInt8×Int
def a1V (k:List UInt8) (o:Option Int) (x:Ln):Option Int:=if x.1=k then some (match o with|none=>x.2|some y=>W (y+x.2))else o
def a7u (k:List UInt8) (xs:List Ln):Option Int:=xs.foldl (a1V k) none
theorem a5w k xs x:a7u k (xs++[x])=a1V k (a7u k xs) x:=by
 unfold a7u;rw[xM];rfl
def ZM (k:List UInt8):List Ln→Option Int
 |[]=>none
 |y::r=>if y.1=k then some y.2 else ZM k r
structure IsS (xs r:List Ln):Prop where
  JC:r.Pairwise fun a b=>a.1<b.1
  mem:∀x,x∈r↔a7u x.1 xs=some x.2
theorem IsS.uniq{xs r s}(h:IsS xs r)(g:IsS xs s):r=s:=
 Bk.uniq (R:=fun a b:Ln=>a.1<b.1) (fun _ h=>bC h) (fun _ _ _ h k=>dD h k) h.JC g.JC fun x=>(h.mem x).trans (g.mem x).symm
theorem c6K{r}(h:r.Pairwise fun a b=>a.1<b.1) x:x∈r↔ZM x.1 r=some x.2:=by
 induction r with
 |nil=>simp[ZM]
 |cons y r G=>
  have A:=uY.1 h;unfold ZM
  by_cases hy:y.1=x.1
  ·rw[zF hy,vX,Option.some_inj];constructor
   ·rintro(rfl|M)
    ·rfl
    exact absurd (A.1 x M) (by rw[hy];exact bC)
   exact fun e=> .inl (dW hy.symm e.symm)
  rw[zD hy,vX,G A.2];exact⟨fun e=>e.resolve_left fun e=>hy (by rw[e]),.inr⟩
theorem IsS.c9Z{xs r}(h:r.Pairwise fun a b=>a.1<b.1)(g:∀k,ZM k r=a7u k xs):IsS xs r:=⟨h,fun x=>(c6K h x).trans (by rw[g])⟩
def a4h:List Ln→Ln→List Ln
 |[],x=>[x]
 |y::r,x=>if y.1<x.1 then y::a4h r x else if y.1=x.1 then(y.1,W (y.2+x.2))::r else x::y::r
def allL (xs:List Ln):List Ln:=xs.foldl a4h []
theorem b1v xs x:allL (xs++[x])=a4h (allL xs) x:=by unfold allL;rw[xM];rfl
theorem b1U x:∀(r:List Ln) (z:Ln),z∈a4h r x→z.1=x.1∨∃y∈r,y.1=z.1
 |[],z,h=> .inl (by rw[vN.1 h])
 |y::r,z,h=>by
  unfold a4h at h
  split at h
  ·rcases vX.1 h with rfl|h
   ·exact .inr ⟨_,.head _,rfl⟩
   rcases b1U x r z h with g|⟨w,A,G⟩
   ·exact .inl g
   exact .inr ⟨w,.tail _ A,G⟩
  split at h
  ·rcases vX.1 h with rfl|h
   ·exact .inr ⟨y,.head _,rfl⟩
   exact .inr ⟨z,.tail _ h,rfl⟩
  rcases vX.1 h with rfl|h
  ·exact .inl rfl
  exact .inr ⟨z,h,rfl⟩
theorem a4Z{a b:List UInt8}(h1:¬a<b)(h2:a≠b):b<a:=by
 rcases Std.le_total (a:=a) (b:=b)with g|g
 ·exact absurd (bK g h2) h1
 exact bK g (Ne.symm h2)
theorem b4W x:∀r:List Ln,(r.Pairwise fun a b=>a.1<b.1)→(a4h r x).Pairwise fun a b=>a.1<b.1
 |[],_=>uT _ _
 |y::r,h=>by
  have A:=uY.1 h;unfold a4h
  split
  ·rename_i M
   refine uY.2 ⟨fun z G=>?_,b4W x r A.2⟩;rcases b1U x r z G with g|⟨w,N,O⟩
   ·rw[g];exact M
   rw[←O];exact A.1 w N
  split
  ·exact uY.2 ⟨A.1,A.2⟩
  rename_i h1 h2
  have h3:=a4Z h1 h2;refine uY.2 ⟨fun z G=>?_,h⟩;rcases vX.1 G with rfl|G
  ·exact h3
  exact dD h3 (A.1 z G)
theorem c1i{k r}(h:∀y∈r,y.1≠k):ZM k r=none:=by
 induction r with
 |nil=>rfl
 |cons y r A=>
  unfold ZM;rw[zD (h y (.head _))];exact A fun z G=>h z (.tail _ G)
theorem b5r k x:∀r:List Ln,(r.Pairwise fun a b=>a.1<b.1)→ZM k (a4h r x)=a1V k (ZM k r) x
 |[],_=>by
  show(if x.1=k then some x.2 else none)=_;unfold a1V;rfl
 |y::r,h=>by
  have G:=uY.1 h;have N:=b5r k x r G.2;unfold a4h
  split
  ·rename_i M
   unfold ZM
   by_cases hk:y.1=k
   ·rw[zF hk,zF hk];unfold a1V;rw[zD];intro e;rw[hk,e]at M;exact bC M
   rw[zD hk,zD hk,N]
  split
  ·rename_i h1 h2
   unfold ZM a1V
   by_cases hk:y.1=k
   ·rw[zF hk,zF hk,zF (h2.symm.trans hk)]
   rw[zD hk,zD hk,zD (fun e=>hk (h2.trans e))]
  rename_i h1 h2
  have h3:=a4Z h1 h2;show(if x.1=k then some x.2 else ZM k (y::r))=_;unfold a1V
  by_cases hk:x.1=k
  ·rw[zF hk,zF hk,c1i];intro z A e;rcases vX.1 A with rfl|A
   ·rw[e,←hk]at h3;exact bC h3
   have:=dD h3 (G.1 z A);rw[e,←hk]at this;exact bC this
  rw[zD hk,zD hk]
theorem b4I xs:(allL xs).Pairwise fun a b=>a.1<b.1:=
 ND (P:=fun xs=>(allL xs).Pairwise fun a b=>a.1<b.1) .nil (fun xs x A=>by rw[b1v];exact b4W x _ A) xs
theorem c5S xs:IsS xs (allL xs):=
 IsS.c9Z (b4I xs) fun k=>ND (P:=fun xs=>ZM k (allL xs)=a7u k xs) rfl (fun xs x A=>by rw[b1v,b5r k x _ (b4I xs),A,a5w]) xs
end Bk
namespace Bk
open Go.Lib in
theorem SI(d:Array Int)(M:∀i j,i<j→j<d.size→d[i]! ≤d[j]!):∀m,m≤d.size→(compactUpTo d m).Pairwise (· <·)∧∀x,x∈compactUpTo d m↔∃j,j<m∧x=d[j]!
 |0,_=>⟨List.Pairwise.nil,fun x=>by simp[compactUpTo]⟩
 |m+1,hm=>by
  obtain⟨h1,h2⟩:=SI d M m oM;rw[compactUpTo_succ]
  by_cases hk:keeps d m=true
  ·rw[zF hk];refine⟨vC.2 ⟨h1,uT _ _,fun a Q b Z=>?_⟩,fun x=>?_⟩
   ·rw[vN.1 Z];obtain⟨j,G,rfl⟩:=(h2 a).1 Q;have A:m=0∨d[m]! ≠d[m-1]! :=zA hk;have a0:=A.resolve_left oM;have h3:d[m-1]! ≤d[m]! :=M _ _ oM oM;have h4:d[m-1]! <d[m]! :=oM;rcases tC j (m-1)with h|h
    ·have N:d[j]! ≤d[m-1]! :=M _ _ h oM;omega
    have:j=m-1:=oM;rw[this];exact h4
   rw[wB,h2,vN];constructor
   ·rintro(⟨j,G,rfl⟩|rfl)
    ·exact⟨j,oM,rfl⟩
    exact⟨m,oM,rfl⟩
   rintro⟨j,G,rfl⟩;rcases tC j m with h|h
   ·exact .inl ⟨j,h,rfl⟩
   have:j=m:=oM;exact .inr (by rw[this])
  rw[zD hk,yD];refine⟨h1,fun x=>(h2 x).trans ⟨fun⟨j,G,e⟩=>⟨j,oM,e⟩,fun⟨j,G,e⟩=>?_⟩⟩;rcases tC j m with h|h
  ·exact⟨j,h,e⟩
  have A:¬(m=0∨d[m]! ≠d[m-1]!):=fun e=>hk (zH e);have O:j=m:=oM;subst O;have N:d[j]! =d[j-1]! :=Decidable.not_not.1 fun e=>A (.inr e);have h6:j≠0:=fun e=>A (.inl e);exact⟨j-1,oM,e.trans N⟩
theorem OX(l:List Int):aG (l.mergeSort fun x y=>decide (x≤y))=QG l:=by
 have Q:(l.mergeSort fun x y=>decide (x≤y)).Pairwise (fun a b=>decide (a≤b)=true):=
  List.pairwise_mergeSort (le:=fun x y:Int=>decide (x≤y)) (fun a b c h1 h2=>zH (Int.le_trans (zA h1) (zA h2))) (fun a b=>by
   rcases Int.le_total a b with h|h<;>simp[h]) l
 have M:=SI (l.mergeSort fun x y=>decide (x≤y)).toArray (fun i j G A=>by
  have N:j<(l.mergeSort fun x y=>decide (x≤y)).length:=by simpa using A
  have O:i<(l.mergeSort fun x y=>decide (x≤y)).toArray.size:=Nat.lt_trans G A;rw[getElem!_pos _ i O,getElem!_pos _ j A];simp only[List.getElem_toArray];exact zA (List.pairwise_iff_getElem.1 Q i j oM N G)) _ (tH _)
 refine b9Q ?_ fun x=>?_
 ·unfold aG;simpa using M.1
 have h2:=M.2 x;simp only[List.size_toArray]at h2;unfold aG;rw[h2];have Z:x∈l↔x∈l.mergeSort fun x y=>decide (x≤y):=List.mem_mergeSort.symm;rw[Z,List.mem_iff_getElem];constructor
 ·rintro⟨j,A,rfl⟩;refine⟨j,A,?_⟩;rw[getElem!_pos _ j (by simpa using A)];simp
 rintro⟨j,A,rfl⟩;refine⟨j,A,?_⟩;rw[getElem!_pos _ j (by simpa using A)];simp
end Bk
section
namespace Go.Proofs.YtalapkjmkjmpjaaGreatDoor
open _root_.Go.Proofs.Tryz
open Go Go.Sx
abbrev EP (n:Int):List Value:=[i64 n]
theorem GN n:(EP n).length=1:=rfl
theorem WO n:(EP n).all dN=true:=rfl
theorem a9R(l:List Int):l.flatMap EP=l.map i64:=by induction l with|nil=>rfl|cons a l A=>rw[xO,A];rfl
abbrev kvI (a:bZ):Value:= .agg #[str a.1,i64 a.2.1,i64 a.2.2]
theorem b8P:FT aA 109 kvI:=FT.c9o underlying109 kR dE dE rfl rfl rfl rfl AV DU a0y kR dE dE rfl rfl rfl rfl tU3 GZ FY BM
theorem c2h{w I T g X}(A:St w [] I I [] w)(G:X.size=g*1):RR w [] I (fun e _ H'=>∃g,e= .returned (gV 0 g)∧AL 0 1 0 [] g∧H'=gH T [] g) (.returned (.slice (some ⟨w.heap.size,0,none⟩) 0 g)) (w.drew.alloc (.cells X T)):=
 have e:Obj.cells X T=yV T ([]++X.toList):=by simp[yV]
 ⟨I,[(w.heap.size,yV T ([]++X.toList))],e▸(A.drewN (w.drawn+1)).alloc (.cells X T),some (w.heap.size,g,X.toList),rfl,⟨sQ _,rfl,by simpa using G⟩,rfl⟩
theorem c5X(n:Nat)(h0:0<n)(O:n≤1000000000) I:yY aA 76 [.slice none 0 0,i64 (n:Int)] I [] (fun e _ H'=>∃g,e= .returned (gV 0 g)∧AL 0 1 0 [] g∧H'=gH 3 [] g):=by
 refine⟨aQ func76 dE rfl,fun w A=>?_⟩;have h:=Any8.slices_Grow_grow Tryz.growI _ _ rfl rfl dE none 0 0 n [] w (tH _) oM (by show(0+n)*8≤_;omega) oM rfl (fun _=>rfl) (fun a N=>by cases N);refine h.mono ?_;rintro e w' ⟨rfl,rfl⟩;have G:=St.start w I [] A.1 A.2.1 A.2.2.1 A.2.2.2;have M:=grownCap_ge w (0+n) 0 (dP.t 25);generalize grownCap w (0+n) 0 (dP.t 25)=g at M ⊢;refine c2h G ?_;simp[Builtin.zeroCells,Value.cells];omega
theorem c4F{base}(l:List Int) g (N:AL base 1 l.length (l.flatMap EP) g)(O:l.length≤100000000000000) I:yY aA 46 [gV l.length g] I (gH 3 (l.flatMap EP) g)
 (fun e _ H'=>e= .returned (.tuple #[])∧H'=gH 3 ((l.mergeSort fun x y=>decide (x≤y)).flatMap EP) g):=by
 rw[a9R]at *;rw[a9R];cases g with
 |none=>
  obtain⟨h1,h2⟩:=N;have h0:l=[]:=wR.1 h1;subst h0;exact(bV (aQ func46 dE rfl) (fun w _=>Tryz.slices_Sort_int_none none 0 w)).mono fun e _ H' _ ⟨h1,_,h3⟩=>⟨h1,h3⟩
 |some q=>
  obtain⟨b,c,sp⟩:=q;refine⟨aQ func46 dE rfl,fun w G=>?_⟩;have A:=G.2.1 _ (.head _);have M:b<w.heap.size:=by
   rcases tC b w.heap.size with h|h
   ·exact h
   rw[yR h]at A;cases A
  exact(Tryz.slices_Sort_int b 0 c l w (a9w (enc:=bY .i64) A) M oM).mono fun e w' ⟨h1,n,os,h2⟩=>⟨I,_,h2▸St.d0k (enc:=bY .i64) n os G sI,h1,rfl⟩
theorem b6s{base} l g (G:AL base 1 l.length (l.flatMap EP) g)(hl:l.length≤100000000000000) I:yY aA 47 [gV l.length g] I (gH 3 (l.flatMap EP) g)
 (fun e _ H'=>∃A,AL base 1 (aG l).length ((aG l).flatMap EP) A∧e= .returned (gV (aG l).length A)∧H'=gH 3 ((aG l).flatMap EP) A):=by
 simp only[a9R]at *;cases g with
 |none=>
  obtain⟨h1,h2⟩:=G;have h0:l=[]:=wR.1 h1;subst h0;exact(bV (aQ func47 dE rfl) (fun w _=>Tryz.slices_Compact_int_empty none 0 w)).mono fun e _ H' _ ⟨h1,_,h3⟩=>⟨none,⟨rfl,rfl⟩,h1,h3⟩
 |some q=>
  obtain⟨b,c,sp⟩:=q;obtain⟨N,O,Q⟩:=G;rw[wO]at O Q;have Z:=Lib.compact_length_le l;refine⟨aQ func47 dE rfl,fun w M=>?_⟩;refine(Tryz.slices_Compact_int b 0 c l w (a9w (enc:=bY .i64) (M.2.1 _ (.head _))) oM oM).mono fun e w' ⟨h1,n,h2⟩=>?_;have h3:=St.d0k (enc:=bY .i64) (l':=aG l++dQ (l.length-(aG l).length) 0) n #[] M (by simp;omega);rw[Go.Sort.grow_empty,←h2,wG,yE]at h3;refine⟨I,_,h3,some (b,c,(dQ (l.length-(aG l).length) 0).map i64++sp),⟨N,sI,by simp;omega⟩,h1,rfl⟩
def b9e:Value→Prop
 | .slice (some a) _ _=>a.spot=none
 |_=>True
def a2G (I:Heap) (l:List Int) (v:Value):Prop:=zJ EP I l v∧b9e v
theorem a2G.mono{I A l v}(h:a2G I l v)(G:Le I A):a2G A l v:=⟨h.1.mono G,h.2⟩
theorem b0P n g:b9e (gV n g):=by cases g with|none=>trivial|some q=>rfl
theorem c2B l v (hl:l.length≤1000000000) I (O:a2G I l v):yY aA 45 [v] I [] (fun e _ H'=>∃g,AL 0 1 l.length (l.flatMap EP) g∧e= .returned (gV l.length g)∧H'=gH 3 (l.flatMap EP) g):=by
 obtain⟨⟨p,c,rfl,_,M⟩,Q⟩:=O;cases p with
 |none=>
  have N:l=[]:=by
   refine aV fun A=>?_;obtain⟨b,o,cs,t,fr,sp,h1,_⟩:=M A;cases h1
  subst N;exact(bV (aQ func45 dE rfl) (fun w _=>Tryz.slices_Clone_nil 0 c w)).mono fun e _ H' _ ⟨h1,_,h3⟩=>⟨none,⟨rfl,rfl⟩,h1,h3⟩
 |some a=>
  obtain⟨b,o,s⟩:=a;have Z:s=none:=Q;subst Z;refine yY.d0o (aQ func45 dE rfl) fun w hw=>?_;refine Tryz.slices_Clone _ (i64 0) 1 8 rfl rfl rfl rfl rfl dE AZ b o l.length c (l.flatMap EP) w (by rw[BZ GN]) (by unfold maxLen;omega) oM (fun j u G=>?_) fun u G=>?_
  ·have A:l≠[]:=fun e=>by subst e;cases G
   obtain⟨_,o',cs,t,fr,sp,h1,hb,hd⟩:=M A;cases h1;refine cell_of_heap (hw _ _ hb) ?_;have h2:(cs.drop o)[j]?=some u:=by
    rw[hd,xJ (xC.1 G).1];exact G
   rwa [xH]at h2
  obtain⟨n,_,hn⟩:=vV.1 G;rw[vN.1 hn];rfl
def YH (I:Heap) (x:Fv):Prop:=a2G I x.f.p x.v
theorem YH.mono{I A x}(h:YH I x)(G:Le I A):YH A x:=a2G.mono h G
theorem rowLen{α:Type}{f:α→List Value}{I:Heap}{l:List α}{v:Value}(h:zJ f I l v):∃p c,v= .slice p l.length c:=let ⟨p,c,h1,_⟩:=h;⟨p,c,h1⟩
theorem a2G.len{I l v}(h:a2G I l v):∃p c,v= .slice p l.length c:=rowLen h.1
theorem c2C I:Pure aA 76 [.slice none 0 0,i64 0] I (.slice none 0 0):=
 bV (aQ func76 dE rfl) fun w _=>(Any8.slices_Grow_room Tryz.growI none 0 0 0 w dE dE dE dE)
theorem a8k l m v1 v2 vb (hl:l.length+m.length≤1000000000) I (h1:zJ EP I l v1)(h2:zJ EP I m v2):
 yY aA 42 [.slice (some ⟨vb,0,none⟩) 2 2] I [(vb,yV 50 [v1,v2])] (fun e I' H'=>∃w,e= .returned w∧a2G I' (l++m) w∧H'=[]):=by
 obtain⟨p1,c1,rfl,N,-⟩:=id h1;obtain⟨p2,c2,rfl,G,-⟩:=id h2;refine zN func42 fun w0 _=>?_;refine yU 19 ?_;refine dB 3 ?_;refine aX ?_;refine yU 6 ?_;refine aU rfl (fun N=>?_) (fun N=>aB (aW (bG (by first|rfl|decide)) N));refine zW 0 ?_;refine yU 19 ?_;refine aU rfl ?_ ?_<;>intro G
 ·have a7:=DK G;omega
 have a7:=DN G;refine yU 7 ?_;refine bQ ?_;refine aX ?_;refine yU 6 ?_;refine aU rfl (fun a3=>?_) (fun a3=>aB (aW (bG (by first|rfl|decide)) a3));refine zW 1 ?_;refine yU 19 ?_;refine aU rfl ?_ ?_<;>intro O
 ·have a8:=DK O;omega
 have a8:=DN O;refine yU 7 ?_;refine bQ ?_;refine aX ?_;refine yU 6 ?_;refine aU rfl (fun a4=>aB (aW (bG (by first|rfl|decide)) a4)) (fun a4=>?_);refine yU 7 ?_;rcases Nat.eq_zero_or_pos (l.length+m.length)with h0|h0
 ·skip
  refine yU 1 ?_;refine bH 23 (i64 0) rfl (zC i64 oM) ?_;refine zO (c2C _) ?_;refine yU 12 ?_;refine dB 3 ?_;refine aX ?_;refine yU 6 ?_;refine aU rfl (fun a5=>?_) (fun a5=>aB (aW (bG (by first|rfl|decide)) a5));refine zW 0 ?_;refine yU 7 ?_;refine aK rfl (zT (by':=7) (n:=0) (g:=none) (xs:=[]) [_] rfl rfl rfl rfl rfl JJ (.inr ⟨_,JJ⟩) kR AZ OT rfl rT rfl (Src.row GN h1 (fun x _=>WO x)) oM ?_);intro _ ae;refine yU 8 ?_;refine bQ ?_;refine aX ?_;refine yU 6 ?_;refine aU rfl (fun a6=>?_) (fun a6=>aB (aW (bG (by first|rfl|decide)) a6));refine zW 1 ?_;refine yU 7 ?_;refine aK rfl (zT (by':=7) [_] rfl rfl rfl rfl rfl JJ (.inr ⟨_,JJ⟩) kR AZ OT rfl ae rfl (Src.row GN h2 (fun x _=>WO x)) oM ?_);intro g9 af;refine yU 8 ?_;refine bQ ?_;refine aX ?_;refine yU 6 ?_;refine aU rfl (fun Q=>aB (aW (bG (by first|rfl|decide)) Q)) (fun Q=>?_);refine yU 12 ?_;refine aJ (aC aS) ?_;have A:([]:List Value)++l.flatMap EP++m.flatMap EP=(l++m).flatMap EP:=sI;refine Ej.perm (H':=gH 3 ((l++m).flatMap EP) g9++[]) (.of_eq (by rw[←A,yD];rfl)) ?_;refine Ej.keepR GN dE (by rw[←A];exact af) (by rw[wV];omega) (fun I8 a9 Z=>?_);refine zM ?_;exact⟨_,rfl,⟨Z,b0P _ _⟩,rfl⟩
 skip
 refine yU 1 ?_;refine bH 23 (i64 ((l.length+m.length:Nat):Int)) rfl (zC i64 oM) ?_;refine NG (c5X (l.length+m.length) oM oM _) ?_;intro _ _ _ M aa ab;have h1:=h1.mono M;have h2:=h2.mono M;obtain⟨g,h,ag,rfl⟩:=ab;cases h;have hg:=ag.base aa;refine J.perm (H':=[_]++gH _ _ g) uQ ?_;refine yU 12 ?_;refine dB 3 ?_;refine aX ?_;refine yU 6 ?_;refine aU rfl (fun a0=>?_) (fun a0=>aB (aW (bG (by first|rfl|decide)) a0));refine zW 0 ?_;refine yU 7 ?_;refine aK rfl (zT (by':=7) [_] rfl rfl rfl rfl rfl JJ (.inr ⟨_,JJ⟩) kR AZ OT rfl hg rfl (Src.row GN h1 (fun x _=>WO x)) oM ?_);intro _ ac;refine yU 8 ?_;refine bQ ?_;refine aX ?_;refine yU 6 ?_;refine aU rfl (fun a1=>?_) (fun a1=>aB (aW (bG (by first|rfl|decide)) a1));refine zW 1 ?_;refine yU 7 ?_;refine aK rfl (zT (by':=7) [_] rfl rfl rfl rfl rfl JJ (.inr ⟨_,JJ⟩) kR AZ OT rfl ac rfl (Src.row GN h2 (fun x _=>WO x)) oM ?_);intro ah ad;refine yU 8 ?_;refine bQ ?_;refine aX ?_;refine yU 6 ?_;refine aU rfl (fun a2=>aB (aW (bG (by first|rfl|decide)) a2)) (fun a2=>?_);refine yU 12 ?_;refine aJ (aC aS) ?_;have A:([]:List Value)++l.flatMap EP++m.flatMap EP=(l++m).flatMap EP:=sI;refine Ej.perm (H':=gH 3 ((l++m).flatMap EP) ah++[]) (.of_eq (by rw[←A,yD];rfl)) ?_;refine Ej.keepR GN dE (by rw[←A];exact ad) (by rw[wV];omega) (fun I8 a9 Z=>?_);refine zM ?_;exact⟨_,rfl,⟨Z,b0P _ _⟩,rfl⟩
theorem d0C x I:Pure aA 39 [.agg (CV x).toArray] I (kvI (Bk.CO x.f)):=by
 refine aO ?_;refine zN func39 fun w0 _=>?_;refine yU 3 ?_;intro _ _;refine yU 1 ?_;intro _ _;refine yZ ?_ ?_<;>intro A G
 ·refine Cj.sr (aI (zY (off':=2) IB BD) ?_);refine aI (BX DU (yX.at 1 rfl)) ?_;refine aI (zL (pl:= #[(0,1),(1,2)]) rfl rfl zeroValue109 rfl underlying109 (fun w=>by simp[BM,BD]) (bM rfl rfl rfl (aF aP) bW)) ?_;refine aK rfl (CG 0 sizeOf109 (aF (aF (aF aP))) aZ ?_);refine J.ns (cO (Ej.a2U ?_));refine bJ (aC (aC dI)) rfl rfl rfl (yX.at 0 rfl) isAgg109 sizeOf109 rfl ?_;rw[show Bk.CO x.f=(x.f.k,((0:Int),(0:Int))) from zF (bne_iff_ne.1 A)];exact rT
 refine Cj.skip (Ej.seq (Cj.sr (aI (zY (off':=0) IB BM) ?_)));refine aI (DX FY BM (yX.at 1 rfl)) ?_;refine aI (zL (pl:= #[(0,1),(1,2)]) rfl rfl zeroValue109 rfl underlying109 (fun w=>by simp[BM,BD]) (bM rfl rfl rfl (bP (aF (aF aP))) bW)) ?_;refine aK rfl (CG 0 sizeOf109 (aF (aF (aF aP))) aZ ?_);refine J.ns (cO ?_);refine bJ (aC (aC dI)) rfl rfl rfl (yX.at 0 rfl) isAgg109 sizeOf109 rfl ?_;rw[show Bk.CO x.f=([],x.f.t) from zD (fun g=>g (EC A))];exact rT
theorem b6m x y I:yY aA 41 [AB x,AB y] I [] (fun e _ H'=>e= .returned (i64 (a0g x y))∧H'=[]):=yY.d1K (a5L x.1 x.2 y.1 y.2 I)
theorem d1w n:IntKind.i64.wrap n=Bk.W n:=by rw[IntKind.wrap_i64];unfold Bk.W;omega
theorem c8k x y (hl:x.f.p.length+y.f.p.length≤1000000000) I (N:YH I x)(O:YH I y):yY aA 40 [.agg (CV x).toArray,.agg (CV y).toArray] I []
 (fun e I' H'=>∃z:Fv,e= .returned (.agg (CV z).toArray)∧z.f=dY x.f y.f∧YH I' z∧H'=[]):=by
 refine zN func40 fun w0 _=>?_;refine yU 3 ?_;intro _ _;refine yU 1 ?_;intro _ _;refine yU 1 ?_;intro _ _;refine zX (b6m y.f.t x.f.t _) ?_;intro _ _ _ A a1;have N:=N.mono A;have O:=O.mono A;obtain⟨h,rfl⟩:=a1;cases h;refine yU 1 ?_;refine bH 10 (.bool (dZ y.f.t x.f.t)) rfl (zC Value.bool (SQ y.f.t x.f.t)) ?_;refine DF ?_ ?_<;>intro G
 ·refine Cj.region (aI (zY (off':=0) IB BM) ?_);refine aI (DX FY BM (yX.at 1 rfl)) ?_;refine aI (zY (off':=0) IB BM) ?_;refine aK rfl (CG 2 BM (aF (aF aP)) (dF (dF aZ)) ?_);refine J.ER (aI (zY (off':=3) IB KD) ?_);refine aI (BX a0A (yX.at 2 rfl)) ?_;refine aI (zY (off':=3) IB KD) ?_;refine aI (BX a0A (yX.at 1 rfl)) ?_;refine aK rfl (CY underlying172 KD zeroValue50 (DC.one rfl (DC.one rfl DC.none)) ?_);intro _ _;refine J.pull dG ?_;refine zX (a8k x.f.p y.f.p _ _ _ hl _ N.1 O.1) ?_;intro _ _ _ _ Q;obtain⟨w,h,M,rfl⟩:=Q;cases h;obtain⟨Z,cw,rfl⟩:=M.len;refine aI (zY (off':=3) IB KD) ?_;refine aK rfl (CG 2 KD (bP (bP (bP (aF aP)))) (dF (dF aZ)) ?_);refine J.ER (aI (DX XV FH (yX.at 2 rfl)) ?_);refine aK rfl (CG 0 FH (aF (aF (aF (aF aP)))) aZ ?_);refine J.ns (cO ?_);refine bJ (aC (aC (aC dI))) rfl rfl rfl (yX.at 0 rfl) XV FH rfl ?_;exact⟨⟨⟨y.f.t,x.f.k,x.f.p++y.f.p⟩,Z,cw⟩,rfl,by unfold dY;rw[show(if dZ y.f.t x.f.t=true then y.f.t else x.f.t)=y.f.t from zF G],M,rfl⟩
 refine yU 9 ?_;intro _ _;refine J.pull dG ?_;refine zX (a8k x.f.p y.f.p _ _ _ hl _ N.1 O.1) ?_;intro _ _ _ _ a0;obtain⟨w,h,M,rfl⟩:=a0;cases h;obtain⟨Z,cw,rfl⟩:=M.len;refine aI (zY (off':=3) IB KD) ?_;refine aK rfl (CG 2 KD (bP (bP (bP (aF aP)))) (dF (dF aZ)) ?_);refine J.ER (aI (DX XV FH (yX.at 2 rfl)) ?_);refine aK rfl (CG 0 FH (aF (aF (aF (aF aP)))) aZ ?_);refine J.ns (cO ?_);refine bJ (aC (aC (aC dI))) rfl rfl rfl (yX.at 0 rfl) XV FH rfl ?_;exact⟨⟨⟨x.f.t,x.f.k,x.f.p++y.f.p⟩,Z,cw⟩,rfl,by unfold dY;rw[show(if dZ y.f.t x.f.t=true then y.f.t else x.f.t)=x.f.t from zD (by rw[G];exact yK)],M,rfl⟩
theorem c8l x I:Pure aA 29 [.agg (BH x).toArray] I (str x.1):=by
 refine aO ?_;refine zN func29 fun w0 _=>?_;refine yU 3 ?_;intro _ _;refine zV ?_;exact rT
theorem c5x x y I:Pure aA 30 [.agg (BH x).toArray,.agg (BH y).toArray] I (.agg (BH (x.1,Bk.W (x.2+y.2))).toArray):=by
 refine aO ?_;refine zN func30 fun w0 _=>?_;refine yU 3 ?_;intro _ _;refine yU 1 ?_;intro _ _;refine yU 1 ?_;intro _ _;refine yU 10 ?_;refine aI (b7D rfl rfl rfl) ?_;refine bH 11 (i64 (Bk.W (x.2+y.2))) rfl (zC (bY .i64) (d1w _)) ?_;refine aI (zL (pl:= #[(0,1),(1,1)]) rfl rfl QK rfl a0B (fun w=>by simp[AZ,BD]) (bM rfl rfl rfl (aF aP) (bM rfl rfl rfl (bP (aF aP)) bW))) ?_;refine aK rfl (CG 0 NQ (aF (aF aP)) aZ ?_);refine J.ns (cO ?_);refine bJ (aC (aC (aC dI))) rfl rfl rfl (yX.at 0 rfl) isAgg56 NQ rfl ?_;exact rT
theorem c5y a n c (A:n≤c) I:Pure aA 37 [.slice a n c] I (.slice a n n):=by
 refine aO ?_;refine zN func37 fun w0 _=>?_;refine yU 12 ?_;refine aI (b1w (k:=n) (m:=n) rfl rfl rfl rfl JY FH (tH _) A) ?_;refine zM ?_;exact rT
theorem II a n c most (A:n≤c) I:Pure aA 17 [.slice a n c,i64 most] I (.slice a (min n most.toNat) (min n most.toNat)):=by
 refine aO ?_;refine zN func17 fun w0 _=>?_;refine yU 11 ?_;refine aI (IE rfl rfl rfl) ?_;refine aI (LJ rfl rfl rfl) ?_;refine bH 10 (i64 ((min n most.toNat:Nat):Int)) rfl (zC i64 (a9u _ _)) ?_;refine aI (IG (k:=(min n most.toNat)) rfl rfl rfl JY FH rfl (FD (sV _ _) A)) ?_;refine zO (c5y a (min n most.toNat) c (FD (sV _ _) A) _) ?_;refine zM ?_;exact rT
theorem c3t a n c most (A:n≤c) I:Pure aA 27 [.slice a n c,i64 most] I (.slice a (min n most.toNat) (min n most.toNat)):=by
 refine aO ?_;refine zN func27 fun w0 _=>?_;refine yU 11 ?_;refine aI (IE rfl rfl rfl) ?_;refine aI (LJ rfl rfl rfl) ?_;refine bH 10 (i64 ((min n most.toNat:Nat):Int)) rfl (zC i64 (a9u _ _)) ?_;refine aI (IG (k:=(min n most.toNat)) rfl rfl rfl RN NQ rfl (FD (sV _ _) A)) ?_;refine zO (b0L a (min n most.toNat) c (FD (sV _ _) A) _) ?_;refine zM ?_;exact rT
def nxM {α:Type} (l:ML α) (e:α×Value×Nat→Value):Heap→ML α→List Value→ML α→Prop:=fun _ vis args vis'=>∃p r,(vis++p::r).Perm l∧args=[e p]∧vis'=vis++[p]
theorem b7U{α:Type}{l:ML α}{e:α×Value×Nat→Value}:∀I s args A,nxM l e I s args A→args.length=1:=fun _ _ _ _ ⟨_,_,_,h,_⟩=>by rw[h];rfl
theorem a2k{α β:Type}(vis:List α)(p:α) φ (f:β→List Value):((vis++[p]).map φ).flatMap f=(vis.map φ).flatMap f++f (φ p):=sI
theorem b5Z{α:Type}{a b l:List α}{x:α}(h:(a++[x]++b).Perm l):(a++x::b).Perm l:=by rw[yE]at h;exact h
theorem b7C{α:Type}{a b l:List α}{x:α}(h:(a++x::b).Perm l):a.length<l.length:=by have:=h.length_eq;rw[wV,wU]at this;omega
structure TVF where
  vis:ML (Bk.Idn)
  rest:ML (Bk.Idn)
  J:Heap
  H:HL
theorem c5e kb O l c (Q:MS l c)(φ:(bZ)×Value×Nat→Fv)(hφ:∀p∈l,p.2.1= .agg (CV (φ p)).toArray) I (G:I kb=some (yV 166 [.map (some O)]))(A:I O=some (zZ kvI l c)):a2v aA 124 [] [ptr kb 0] I ([]:ML (bZ)) (nxM l fun p=> .agg (CV (φ p)).toArray) (fun s=>s.Perm l):=by
 refine⟨aQ func124 dE rfl,fun ly Y Z _ a6 H a7=>?_⟩;refine zN func124 fun w0 _=>?_;refine yU 3 ?_;refine aK rfl (MJ (kv:=kvI) (l:=l) rfl rfl rfl rfl a8T (aT A) ?_);intro b1 _;refine yU 3 ?_;refine dM (ι:=TVF) (fun y=>(y.vis++y.rest).Perm l∧(y.J kb=some (yV 166 [.map (some O)])∧y.J O=some (zZ kvI l c))∧Y y.vis y.J y.H) (fun y=>y.rest.length) (fun y=>[(0,.func (.yield ly) #[] #[]),(6,ptr b1 0)]) (fun y=>y.J) (fun y=>(b1,XZ O c y.vis c)::y.H) ⟨[],l,_,H⟩ ⟨.refl _,⟨G,A⟩,a7⟩ rT rfl rfl ?_;rintro⟨vis,rest,_,HY⟩ ⟨hp,⟨G,A⟩,hY⟩;dsimp only at hp G A hY ⊢;refine yU 2 ?_;refine aK rfl (NW (kv:=kvI) (l:=l) 0 rfl rfl rfl rfl rfl (aT A) Q.2.2 (tH _) Q.2.1 hp ?_ ?_)
 ·rintro x M _ a8 a0 ⟨-,hset⟩;simp only[uM,uN]at hset;subst hset;have a3:x∈l:=a0.mem_iff.1 (vZ _ (vY _ (.head _)));refine yU 10 ?_;refine aI (RQ (kv:=kvI) (l:=l) rfl rfl (yX.at 0 rfl) (aT A) a3 Q.2.1) ?_;refine yU 1 ?_;refine bH 10 (.agg (CV (φ x)).toArray) rfl (hφ x a3) ?_;refine yU 1 ?_;intro _ _;refine yU 7 ?_;refine J.yield [_,_] rfl rfl rfl rfl rfl rfl (a6 vis [_] (vis++[x]) _ HY ⟨x,M,b5Z a0,rfl,rfl⟩ hY) ?_ (fun _ _ _ h=>by rcases h with⟨h,_⟩|⟨h,_⟩<;>cases h) (fun _ _ h=>by rcases h with⟨h,_⟩|⟨h,_⟩<;>cases h);intro v3 I3 N a1 a9;have G:=a1 _ _ G;have A:=a1 _ _ A;obtain⟨_,h3,a4⟩:∃t:Bool,v3= .bool t∧((t=true∧Y (vis++[x]) I3 N)∨(t=false∧Z I3 N)):=by
   rcases a9 with⟨h,h2⟩|⟨h,h2⟩
   ·cases h;exact⟨true,rfl,.inl ⟨rfl,h2⟩⟩
   cases h;exact⟨false,rfl,.inr ⟨rfl,h2⟩⟩
  subst h3;refine DF ?_ ?_<;>intro a2
  ·have aa:Z I3 N:=by
    rcases a4 with⟨rfl,_⟩|⟨_,h⟩
    ·exact aB a2
    exact h
   refine yU 4 ?_;refine aJ (H':=N) (aN _ (aN _ (aY _))) ?_;exact Ej.a7H rfl rfl ⟨rfl,.inr aa⟩
  have ab:Y (vis++[x]) I3 N:=by
   rcases a4 with⟨_,h⟩|⟨rfl,_⟩
   ·exact h
   exact aB a2
  refine yU 2 ?_;refine aJ (aC (bF aS)) ?_;refine bU ⟨vis++[x],M,_,N⟩ ⟨a0,⟨G,A⟩,ab⟩ (by have h:=a8.length_eq;simp only[wU]at h;dsimp only;omega) rT rfl rfl
 intro a5;have ac:vis.Perm l:=by rw[a5,yD]at hp;exact hp
 refine yU 9 ?_;refine aJ (H':=HY) (aN _ (aY _)) ?_;refine Ej.PU rfl rfl ⟨rfl,.inl ⟨vis,ac,hY⟩⟩
theorem c0H m I:yY aA 74 [.map m] I [] (fun e _ H'=>∃b,e= .returned (.func (.func 124) #[] #[ptr b 0])∧H'=[(b,yV 166 [.map m])]):=by
 refine zN func74 fun w0 _=>?_;refine yU 3 ?_;intro A _;refine zM ?_;exact⟨A,rfl,rfl⟩
theorem b3i A φ f G M I (hl:A.length≤1000000000000)(N:a2v aA f G M I ([]:ML (bZ)) (nxM A fun p=> .agg (CV (φ p)).toArray) (fun s=>s.Perm A)):yY aA 212 [.slice none 0 0,.func (.func f) G.toArray M.toArray] I []
 (fun e _ H'=>∃(zs:List (Fv)) (g:Gs),zs.Perm (A.map φ)∧AL 0 4 zs.length (zs.flatMap CV) g∧e= .returned (gV zs.length g)∧H'=gH 52 (zs.flatMap CV) g):=by
 refine yY.YZ func212 rfl dE (tJ rfl) ?_;intro w0 _;refine yU 3 ?_;intro b1 _;refine yU 10 ?_;refine Cj.a4p (ps:=[7]) (H1:=[_]) (R:=[]) ([]:ML (bZ)) (nxM A fun p=> .agg (CV (φ p)).toArray) (fun s=>s.Perm A) (fun vis _ H'=>∃g,AL 0 4 vis.length ((vis.map φ).flatMap CV) g∧H'=(b1,yV 30 [gV vis.length g])::gH 52 ((vis.map φ).flatMap CV) g) (fun _ _ _=>False) rfl (a2L rfl) b7U rfl N (fun _ _ _ _ _ h=>h) ⟨none,⟨rfl,rfl⟩,rfl⟩ ?_ ?_ ?_
 ·intro l r k args _ _ _ _ hk a0 O;obtain⟨_,_,a1,rfl,rfl⟩:=hk;obtain⟨g,Q,rfl⟩:=O;have a3:=b7C a1;refine yU 2 ?_;intro _ _;refine yU 2 ?_;refine dR (eF dG) ?_;refine Ej.asg ?_;refine yU 5 ?_;intro _ _;refine aK rfl (GX 0 (sQ _) (by':=55) [_,_,_,_] rfl rfl rfl rfl rfl JY (.inr ⟨_,JY⟩) kR FH LW rfl Q rfl (dU (yX.at 0 rfl) rfl rfl rfl) oM ?_);intro _ a2;refine yU 3 ?_;refine dR (eF dG) ?_;refine aJ (bF (aC (aC (bF aS)))) ?_;exact Ej.a3z ⟨_,by rw[a2k,wV];exact a2,by rw[a2k,wV];rfl⟩
 ·intro _ sE _ _ Z a0 O;obtain⟨g,Q,rfl⟩:=O;refine Ej.MN (Ej.seq (Cj.sr (aI (BX isAgg30 (yX.at 1 rfl)) ?_)));refine aI BI ?_;refine J.ns (cO ?_);refine Ej.a2R (.inl rfl) ?_;refine PD.mark 0 rfl aZ ?_;refine PD.keep (aC (aC aS)) ?_;exact PD.YI rfl rfl ⟨sE.map φ,g,Z.map φ,by rw[wO];exact Q,by rw[wO],yD _⟩
 exact fun _ _ _ _ _ hZ=>hZ.elim
theorem b6B A φ f G M I (Z:A.length≤1000000000000)(N:a2v aA f G M I ([]:ML (bZ)) (nxM A fun p=> .agg (CV (φ p)).toArray) (fun s=>s.Perm A)):yY aA 122 [.func (.func f) G.toArray M.toArray] I []
 (fun e _ H'=>∃(zs:List (Fv)) (g:Gs),zs.Perm (A.map φ)∧AL 0 4 zs.length (zs.flatMap CV) g∧e= .returned (gV zs.length g)∧H'=gH 52 (zs.flatMap CV) g):=by
 refine zN func122 fun w0 _=>?_;refine zX (b3i A φ f G M _ Z N) ?_;intro _ _ _ _ O;obtain⟨zs,g,Q,hg,h,rfl⟩:=O;cases h;refine zM ?_;exact⟨zs,g,Q,hg,rfl,yD _⟩
theorem b9D A φ f G M I (hl:A.length≤1000000000000)(Z:a2v aA f G M I ([]:ML (bZ)) (nxM A fun p=> .agg (CV (φ p)).toArray) (fun s=>s.Perm A)):yY aA 73 [.func (.func f) G.toArray M.toArray,.func (.func 43) #[] #[]] I []
 (fun e _ H'=>∃(ls:List (Fv)) (g:Gs),ls.Perm (A.map φ)∧ls.Pairwise (fun p q=>Bk.KO q.f p.f=false)∧AL 0 4 ls.length (ls.flatMap CV) g∧e= .returned (gV ls.length g)∧H'=gH 52 (ls.flatMap CV) g):=by
 refine zN func73 fun w0 _=>?_;refine zX (b6B A φ f G M _ hl Z) ?_;intro _ _ _ _ a0;obtain⟨zs,g,O,hg,h,rfl⟩:=a0;cases h;refine J.perm (H':=gH _ _ g) (.of_eq (yD _).symm) ?_;refine RS [] (c3g zs g hg (by have:=O.length_eq;rw[wO]at this;omega) _) ?_;rintro _ _ _ _ ⟨ls,Q,a1,h,rfl⟩;cases h;have N:zs.length=ls.length:=Q.length_eq.symm;refine zM ?_;rw[N];exact⟨ls,g,Q.trans O,a1,PN (N▸hg) (by rw[BZ CQ,BZ CQ,N]),rfl,rfl⟩
structure TVL where
  vis:ML (List UInt8)
  rest:ML (List UInt8)
  J:Heap
  H:HL
theorem c5a kb O l c (Q:MS l c)(φ:(List UInt8)×Value×Nat→Bk.Ln)(hφ:∀p∈l,p.2.1= .agg (BH (φ p)).toArray) I (G:I kb=some (yV 146 [.map (some O)]))(A:I O=some (zZ (fun a:List UInt8=>str a) l c)):a2v aA 109 [] [ptr kb 0] I ([]:ML (List UInt8)) (nxM l fun p=> .agg (BH (φ p)).toArray) (fun s=>s.Perm l):=by
 refine⟨aQ func109 dE rfl,fun ly Y Z _ a6 H a7=>?_⟩;refine zN func109 fun w0 _=>?_;refine yU 3 ?_;refine aK rfl (MJ (kv:=(fun a:List UInt8=>str a)) (l:=l) rfl rfl rfl rfl a9J (aT A) ?_);intro b1 _;refine yU 3 ?_;refine dM (ι:=TVL) (fun y=>(y.vis++y.rest).Perm l∧(y.J kb=some (yV 146 [.map (some O)])∧y.J O=some (zZ (fun a:List UInt8=>str a) l c))∧Y y.vis y.J y.H) (fun y=>y.rest.length) (fun y=>[(0,.func (.yield ly) #[] #[]),(6,ptr b1 0)]) (fun y=>y.J) (fun y=>(b1,XZ O c y.vis c)::y.H) ⟨[],l,_,H⟩ ⟨.refl _,⟨G,A⟩,a7⟩ rT rfl rfl ?_;rintro⟨vis,rest,_,HY⟩ ⟨hp,⟨G,A⟩,hY⟩;dsimp only at hp G A hY ⊢;refine yU 2 ?_;refine aK rfl (NW (kv:=(fun a:List UInt8=>str a)) (l:=l) 0 rfl rfl rfl rfl rfl (aT A) Q.2.2 (tH _) Q.2.1 hp ?_ ?_)
 ·rintro x M _ a8 a0 ⟨-,hset⟩;simp only[uM,uN]at hset;subst hset;have a3:x∈l:=a0.mem_iff.1 (vZ _ (vY _ (.head _)));refine yU 10 ?_;refine aI (RQ (kv:=(fun a:List UInt8=>str a)) (l:=l) rfl rfl (yX.at 0 rfl) (aT A) a3 Q.2.1) ?_;refine yU 1 ?_;refine bH 10 (.agg (BH (φ x)).toArray) rfl (hφ x a3) ?_;refine yU 1 ?_;intro _ _;refine yU 7 ?_;refine J.yield [_,_] rfl rfl rfl rfl rfl rfl (a6 vis [_] (vis++[x]) _ HY ⟨x,M,b5Z a0,rfl,rfl⟩ hY) ?_ (fun _ _ _ h=>by rcases h with⟨h,_⟩|⟨h,_⟩<;>cases h) (fun _ _ h=>by rcases h with⟨h,_⟩|⟨h,_⟩<;>cases h);intro v3 I3 N a1 a9;have G:=a1 _ _ G;have A:=a1 _ _ A;obtain⟨_,h3,a4⟩:∃t:Bool,v3= .bool t∧((t=true∧Y (vis++[x]) I3 N)∨(t=false∧Z I3 N)):=by
   rcases a9 with⟨h,h2⟩|⟨h,h2⟩
   ·cases h;exact⟨true,rfl,.inl ⟨rfl,h2⟩⟩
   cases h;exact⟨false,rfl,.inr ⟨rfl,h2⟩⟩
  subst h3;refine DF ?_ ?_<;>intro a2
  ·have aa:Z I3 N:=by
    rcases a4 with⟨rfl,_⟩|⟨_,h⟩
    ·exact aB a2
    exact h
   refine yU 4 ?_;refine aJ (H':=N) (aN _ (aN _ (aY _))) ?_;exact Ej.a7H rfl rfl ⟨rfl,.inr aa⟩
  have ab:Y (vis++[x]) I3 N:=by
   rcases a4 with⟨_,h⟩|⟨rfl,_⟩
   ·exact h
   exact aB a2
  refine yU 2 ?_;refine aJ (aC (bF aS)) ?_;refine bU ⟨vis++[x],M,_,N⟩ ⟨a0,⟨G,A⟩,ab⟩ (by have h:=a8.length_eq;simp only[wU]at h;dsimp only;omega) rT rfl rfl
 intro a5;have ac:vis.Perm l:=by rw[a5,yD]at hp;exact hp
 refine yU 9 ?_;refine aJ (H':=HY) (aN _ (aY _)) ?_;refine Ej.PU rfl rfl ⟨rfl,.inl ⟨vis,ac,hY⟩⟩
theorem b8W m I:yY aA 65 [.map m] I [] (fun e _ H'=>∃b,e= .returned (.func (.func 109) #[] #[ptr b 0])∧H'=[(b,yV 146 [.map m])]):=by
 refine zN func65 fun w0 _=>?_;refine yU 3 ?_;intro A _;refine zM ?_;exact⟨A,rfl,rfl⟩
theorem b2P A φ f G M I (hl:A.length≤1000000000000)(N:a2v aA f G M I ([]:ML (List UInt8)) (nxM A fun p=> .agg (BH (φ p)).toArray) (fun s=>s.Perm A)):yY aA 185 [.slice none 0 0,.func (.func f) G.toArray M.toArray] I []
 (fun e _ H'=>∃(zs:List (Bk.Ln)) (g:Gs),zs.Perm (A.map φ)∧AL 0 2 zs.length (zs.flatMap BH) g∧e= .returned (gV zs.length g)∧H'=gH 56 (zs.flatMap BH) g):=by
 refine yY.YZ func185 rfl dE (tJ rfl) ?_;intro w0 _;refine yU 3 ?_;intro b1 _;refine yU 10 ?_;refine Cj.a4p (ps:=[7]) (H1:=[_]) (R:=[]) ([]:ML (List UInt8)) (nxM A fun p=> .agg (BH (φ p)).toArray) (fun s=>s.Perm A) (fun vis _ H'=>∃g,AL 0 2 vis.length ((vis.map φ).flatMap BH) g∧H'=(b1,yV 53 [gV vis.length g])::gH 56 ((vis.map φ).flatMap BH) g) (fun _ _ _=>False) rfl (a2L rfl) b7U rfl N (fun _ _ _ _ _ h=>h) ⟨none,⟨rfl,rfl⟩,rfl⟩ ?_ ?_ ?_
 ·intro l r k args _ _ _ _ hk a0 O;obtain⟨_,_,a1,rfl,rfl⟩:=hk;obtain⟨g,Q,rfl⟩:=O;have a3:=b7C a1;refine yU 2 ?_;intro _ _;refine yU 2 ?_;refine dR (eF dG) ?_;refine Ej.asg ?_;refine yU 5 ?_;intro _ _;refine aK rfl (GX 0 (sQ _) (by':=23) [_,_,_,_] rfl rfl rfl rfl rfl RN (.inr ⟨_,RN⟩) kR NQ QK rfl Q rfl (dU (yX.at 0 rfl) rfl rfl rfl) oM ?_);intro _ a2;refine yU 3 ?_;refine dR (eF dG) ?_;refine aJ (bF (aC (aC (bF aS)))) ?_;exact Ej.a3z ⟨_,by rw[a2k,wV];exact a2,by rw[a2k,wV];rfl⟩
 ·intro _ sE _ _ Z a0 O;obtain⟨g,Q,rfl⟩:=O;refine Ej.MN (Ej.seq (Cj.sr (aI (BX isAgg53 (yX.at 1 rfl)) ?_)));refine aI BI ?_;refine J.ns (cO ?_);refine Ej.a2R (.inl rfl) ?_;refine PD.mark 0 rfl aZ ?_;refine PD.keep (aC (aC aS)) ?_;exact PD.YI rfl rfl ⟨sE.map φ,g,Z.map φ,by rw[wO];exact Q,by rw[wO],yD _⟩
 exact fun _ _ _ _ _ hZ=>hZ.elim
theorem b6S A φ f G M I (Z:A.length≤1000000000000)(N:a2v aA f G M I ([]:ML (List UInt8)) (nxM A fun p=> .agg (BH (φ p)).toArray) (fun s=>s.Perm A)):yY aA 107 [.func (.func f) G.toArray M.toArray] I []
 (fun e _ H'=>∃(zs:List (Bk.Ln)) (g:Gs),zs.Perm (A.map φ)∧AL 0 2 zs.length (zs.flatMap BH) g∧e= .returned (gV zs.length g)∧H'=gH 56 (zs.flatMap BH) g):=by
 refine zN func107 fun w0 _=>?_;refine zX (b2P A φ f G M _ Z N) ?_;intro _ _ _ _ O;obtain⟨zs,g,Q,hg,h,rfl⟩:=O;cases h;refine zM ?_;exact⟨zs,g,Q,hg,rfl,yD _⟩
theorem c0q A φ f G M I (hl:A.length≤1000000000000)(Z:a2v aA f G M I ([]:ML (List UInt8)) (nxM A fun p=> .agg (BH (φ p)).toArray) (fun s=>s.Perm A)):yY aA 64 [.func (.func f) G.toArray M.toArray,.func (.func 31) #[] #[]] I []
 (fun e _ H'=>∃(ls:List (Bk.Ln)) (g:Gs),ls.Perm (A.map φ)∧ls.Pairwise (fun p q=>¬q.1<p.1)∧AL 0 2 ls.length (ls.flatMap BH) g∧e= .returned (gV ls.length g)∧H'=gH 56 (ls.flatMap BH) g):=by
 refine zN func64 fun w0 _=>?_;refine zX (b6S A φ f G M _ hl Z) ?_;intro _ _ _ _ a0;obtain⟨zs,g,O,hg,h,rfl⟩:=a0;cases h;refine J.perm (H':=gH _ _ g) (.of_eq (yD _).symm) ?_;refine RS [] (c0S zs g hg (by have:=O.length_eq;rw[wO]at this;omega) _) ?_;rintro _ _ _ _ ⟨ls,Q,a1,h,rfl⟩;cases h;have N:zs.length=ls.length:=Q.length_eq.symm;refine zM ?_;rw[N];exact⟨ls,g,Q.trans O,a1,PN (N▸hg) (by rw[BZ DW,BZ DW,N]),rfl,rfl⟩
end Go.Proofs.YtalapkjmkjmpjaaGreatDoor
end
namespace Go.Sx
open Go
theorem Ready.dom{I H w}(h:Ready I H w){b}(A:w.heap.size≤b):I b=none:=by
 cases hI:I b with
 |none=>rfl
 |some o=>
  have:=h.1 b o hI;rw[yR A]at this;cases this
section
variable {cx:Cx} {Q:Qt} {e:Env} {I:Heap} {H:HL}
end
section
variable {cx:Cx} {Q:Qt} {e:Env} {I:Heap} {H:HL}
end
def KZ {α:Type} (N:Nat→Prop) (T:TypeId) (f:α→List Value) (I:Heap) (l:List α) (v:Value):Prop:=
 ∃p c,v= .slice p l.length c∧l.length≤c∧(l≠[]→∃b sp,p=some ⟨b,0,none⟩∧N b∧I b=some (yV T (l.flatMap f++sp)))
section
variable {α:Type} {N M:Nat→Prop} {T:TypeId} {f:α→List Value} {I I':Heap} {l:List α} {v:Value}
theorem KZ.mono(h:KZ N T f I l v)(A:Le I I'):KZ N T f I' l v:=
 let ⟨p,c,h1,h2,h3⟩:=h;⟨p,c,h1,h2,fun G=>let ⟨b,sp,M,O,Q⟩:=h3 G;⟨b,sp,M,O,A _ _ Q⟩⟩
theorem KZ.imp(h:KZ N T f I l v)(A:∀b,N b→M b):KZ M T f I l v:=
 let ⟨p,c,h1,h2,h3⟩:=h;⟨p,c,h1,h2,fun G=>let ⟨b,sp,O,Q,Z⟩:=h3 G;⟨b,sp,O,A b Q,Z⟩⟩
theorem KZ.rowT(h:KZ N T f I l v):RV T f I l v:=
 let ⟨p,c,h1,h2,h3⟩:=h;⟨p,c,h1,h2,fun A=>let ⟨b,sp,G,_,M⟩:=h3 A;⟨b,sp,G,M⟩⟩
theorem KZ.row(h:KZ N T f I l v):zJ f I l v:=h.rowT.row
theorem KZ.nil:KZ N T f I ([]:List α) (.slice none 0 0):=⟨none,0,rfl,tH _,fun h=>absurd rfl h⟩
end
section
variable {cx:Cx} {Q:Qt} {e:Env} {I:Heap} {R:HL} {T:TypeId} {α:Type} {l:List α} {f:α→List Value} {sz n base:Nat} {g:Gs}
theorem a7N{X:Heap→HL→Prop}(O:∀x,(f x).length=sz)(G:0<sz)(M:AL base sz n (l.flatMap f) g)(Q:n=l.length)(Z:∀b o,base≤b→(∀A,Le I A→A b=some o→X A R)→X I ((b,o)::R))(k:∀A,Le I A→KZ (base≤·) T f A l (gV n g)→X A R):X I (gH T (l.flatMap f) g++R):=by
 subst Q;cases g with
 |none=>
  obtain⟨h1,h2⟩:=M;have:l=[]:=wR.1 h1;subst this;exact k I (Le.refl _) KZ.nil
 |some q=>
  obtain⟨b,c,sp⟩:=q;obtain⟨h1,h2,h3⟩:=M;have hc:l.length≤c:=by
   rw[BZ O]at h3;exact Nat.le_of_mul_le_mul_right (oM:l.length*sz≤c*sz) G
  exact Z b _ h1 fun A N hb=>k A N ⟨_,c,rfl,hc,fun _=>⟨b,sp,rfl,h1,hb⟩⟩
theorem Cj.a9v{c}(M:∀x,(f x).length=sz)(A:0<sz)(N:AL cx.w0.heap.size sz n (l.flatMap f) g)(O:n=l.length)(k:∀G,Le I G→KZ (cx.w0.heap.size≤·) T f G l (gV n g)→Cj cx Q c e G R):Cj cx Q c e I (gH T (l.flatMap f) g++R):=
 a7N (X:=fun I H=>Cj cx Q c e I H) M A N O (fun _ _ Z k=>Cj.persist Z k) k
theorem J.a9v{A r}(N:∀x,(f x).length=sz)(G:0<sz)(O:AL cx.w0.heap.size sz n (l.flatMap f) g)(Z:n=l.length)(k:∀M,Le I M→KZ (cx.w0.heap.size≤·) T f M l (gV n g)→J cx Q A r e M R):J cx Q A r e I (gH T (l.flatMap f) g++R):=
 a7N (X:=fun I H=>J cx Q A r e I H) N G O Z (fun _ _ hb k=>J.persist hb k) k
theorem Ej.a9v{x}(M:∀x,(f x).length=sz)(A:0<sz)(N:AL cx.w0.heap.size sz n (l.flatMap f) g)(O:n=l.length)(k:∀G,Le I G→KZ (cx.w0.heap.size≤·) T f G l (gV n g)→Ej cx Q x e G R):Ej cx Q x e I (gH T (l.flatMap f) g++R):=
 a7N (X:=fun I H=>Ej cx Q x e I H) M A N O (fun _ _ Z k=>Ej.persist Z k) k
end
theorem Cj.named{A Q e I H c}(k:∀G,G=I→Cj A Q c e G H):Cj A Q c e I H:=k I rfl
section
variable {cx:Cx} {Q:Qt} {e:Env} {I I1:Heap} {H A:HL} {Z:CL} {z:Nat} {l:List Oper} {fuel:Nat} {listed:Array Bool}
end
section
variable {cx:Cx} {Q:Qt} {e:Env} {I I1:Heap} {R H1 A:HL} {Z:CL} {z:Nat} {ops:List Oper} {fuel:Nat} {listed:Array Bool} {T:TypeId} {α:Type} {l:List α} {f:α→List Value} {v:Value} {sz n:Nat} {g:Gs}
theorem JA.a3A(h:QA T f l v H1)(G:∀p∈H1,cx.w0.heap.size≤p.1)(k:∀M,Le I M→RV T f M l v→JA cx Q ops I1 A Z z fuel listed e M R):JA cx Q ops I1 A Z z fuel listed e I (H1++R):=
 b1G (X:=fun I H=>JA cx Q ops I1 A Z z fuel listed e I H) h G (fun _ _ G k=>JA.persist G k) k
end
end Go.Sx
namespace Bk
open Ix
theorem b2B n:∀l:List Int,(WH n l).length≤l.length+1
 |[]=>tH _
 |x::r=>by
  have:=b2B n r;unfold WH
  split
  ·simp only[wU];omega
  split<;>simp only[wU]<;>omega
theorem a6R:∀(p l:List Int),(KU l p).length≤l.length+p.length
 |[],_=>tH _
 |n::r,l=>by
  have h1:=a6R r (WH n l);have h2:=b2B n l;show(KU (WH n l) r).length≤_;rw[wU];omega
theorem NZ.at{xs r}(h:NZ xs r){f}(M:f∈r):∃g,grp (CO f) xs=some g∧norm g=f:=by
 obtain⟨id,g,A,G⟩:=(h.mem f).1 M;have h1:=a9x A;rw[←a4V,G]at h1;exact⟨g,by rw[h1];exact A,G⟩
theorem NZ.nodup{xs r}(h:NZ xs r):(r.map CO).Nodup:=by
 rw[vI,uV];refine h.JC.imp_of_mem fun {a b} N O A e=>?_;obtain⟨g,G,rfl⟩:=h.at N;obtain⟨_,M,rfl⟩:=h.at O;rw[e,M]at G;cases G;rw[a6D]at A;cases A
theorem b3I{α:Type}[DecidableEq α]:∀{l m:List α},l.Nodup→(∀x∈l,x∈m)→l.length≤m.length
 |[],_,_,_=>sQ _
 |a::l,m,hl,h=>by
  have A:=h a (.head _);have h1:=b3I (l:=l) (m:=m.erase a) (vJ.1 hl).2 fun x G=>(List.mem_erase_of_ne (fun e:x=a=>(vJ.1 hl).1 (by rw[←e];exact G))).2 (h x (.tail _ G));rw[List.length_erase_of_mem A]at h1;have:=List.length_pos_of_mem A;rw[wU];omega
theorem NZ.ids{xs r}(h:NZ xs r) id:id∈r.map CO↔id∈xs.map CO:=by
 constructor
 ·intro G;obtain⟨f,M,rfl⟩:=vU.1 G;obtain⟨g,A,_⟩:=h.at M;exact b8y xs A
 intro G;cases A:grp id xs with
 |none=>
  exfalso
  revert G A;refine ND (P:=fun xs=>id∈xs.map CO→grp id xs=none→False) (fun h=>by simp at h) (fun ys x N=>?_) xs;intro G A;rw[ZK]at A;unfold step1 at A
  split at A
  ·cases A
  rename_i O
  rw[wG,wB]at G;rcases G with g|g
  ·exact N g A
  rw[List.map_singleton,vN]at g;exact O g.symm
 |some g=>exact vU.2 ⟨norm g,(h.mem _).2 ⟨id,g,A,rfl⟩,(a4V g).trans (a9x A)⟩
theorem NZ.len{xs r}(h:NZ xs r):r.length≤xs.length:=by
 have:=b3I (l:=r.map CO) (m:=xs.map CO) h.nodup fun id A=>(h.ids id).1 A
 rwa [wO,wO]at this
theorem NZ.each{xs r}(h:NZ xs r):∀f∈r,f.p.length≤OI xs:=fun f A=>by
 obtain⟨g,G,rfl⟩:=h.at A;have h1:=a6z _ G;have h2:=a6R g.p [];show(QG g.p).length≤_;have h3:(QG g.p).length≤0+g.p.length:=h2;omega
