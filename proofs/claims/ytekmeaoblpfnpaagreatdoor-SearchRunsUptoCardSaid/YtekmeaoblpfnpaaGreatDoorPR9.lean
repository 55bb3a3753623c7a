/-
  Own texts on the laws of the seat, joined: the logic, and contracts of functions. Conditions: none.
-/
import Derived.Test.YtekmeaoblpfnpaaGreatDoorNmR
import Derived.Test.YtekmeaoblpfnpaaGreatDoorPR8
set_option linter.all false
set_option maxRecDepth 100000
set_option maxHeartbeats 40000000
open List renaming length_take -> aA,take_of_length_le -> aF,getElem?_eq_some_iff -> aH,mem_map -> aI,length_drop -> aJ,length_append -> aK,mem_of_mem_drop -> aO,length_cons -> aQ,take_succ_eq_append_getElem -> aT,length_map -> aU,mem_of_mem_take -> aX,mem_map_of_mem -> bC,map_map -> bD,pairwise_iff_forall_sublist -> bI,length_singleton -> bM,perm_append_comm -> bP,mem_filter -> bU,mem_append -> bY,getD_cons_zero -> cZ,getD_cons_succ -> dA,nodup_iff_pairwise_ne -> dG,pairwise_map -> dH,length_nil -> dL,length_filter_le -> dN,map_cons -> dS,getD_nil -> dU,flatMap_append -> dV,take_succ_cons -> dW,filter_append -> dY,mem_singleton -> eF,flatMap -> eG,getElem?_take -> eP,getElem?_map -> fB,append_nil -> fJ,map_take -> gG
open Go.Proofs.Tryz renaming prog -> aB
open Ix renaming oN -> aC,b3G -> bJ,Rec -> bT,AB -> dD,oG -> dJ,IG -> dP,oI -> dX,Pl -> fE,cnt -> fF,nO -> fG,scan -> fM,vals -> fO,rE -> gB
open Ke renaming up -> aG,digit -> aN,okb -> aY,val -> bF,OT -> bH,digits -> bQ,nb -> bZ,NI -> dM,DK -> eH,NG -> fA,VE -> fZ
open Nat renaming le_refl -> aP,min_eq_right -> aS,zero_le -> bG,min_eq_left -> dK
open Int renaming natCast_mul -> aV
open Go.Sx.J renaming ev -> aW,z -> cO,op -> dZ
open UInt8 renaming ofNat -> aZ,toNat_inj -> fK
open Go.Sx.Ej renaming round -> bK,keep -> dQ,keepR -> fD,perm -> fU,BO -> fV
open Go.Sx.jO renaming toPure -> bV
open Go.Sx.Cj renaming qC -> bW,loop -> eU
open Go.Sx.Keeps renaming d -> dB,r -> eX,k -> fQ
open Go.Value renaming int -> dF,oneCell' -> fP
open Classical renaming byContradiction -> dI
open Go.Sx.jR renaming zL -> dR
open Go.Sx.Src renaming row -> eY
open Prod renaming ext -> fC
open Go.Sx.JA renaming zt -> fH
section
namespace Go.Proofs.YtekmeaoblpfnpaaGreatDoor
open _root_.Go.Proofs.Tryz
open Go Go.Sx
theorem b4g{I L t xs}(A:vH I xs ((Ix.qK L t).getD []))(h:xs.find? (fun x=>decide (x.1.name=gB))=none):dX L t=[]:=by
 rw[QS,←A.1,a4l,h];rfl
theorem b4k{I L t xs x}(A:vH I xs ((Ix.qK L t).getD []))(h:xs.find? (fun x=>decide (x.1.name=gB))=some x):dX L t=x.1.key:=by
 rw[QS,←A.1,a4l,h];rfl
abbrev isT (x:VW):Bool:=decide (x.1.name=gB)
abbrev lZ (x:List UInt8×Nat):List UInt8×Int:=(x.1,(x.2:Int))
abbrev a7E (l:List (List UInt8×Nat)) (v:Value) (H:HL):Prop:=AQ 268 oU (l.map lZ) v H
def BQ (n b:List UInt8) (p:fE):Bool:=decide (p.1=n) && !decide (p.2<b)
def yJ (L:Ix.Ix) (n b:List UInt8) (vis:ML fE):List (List UInt8×Nat):=(vis.filter fun x=>BQ n b x.1).map fun x=>(x.1.2,(dJ L n x.1.2).length)
theorem uF L n b vis x:yJ L n b (vis++[x])=yJ L n b vis++if BQ n b x.1=true then[(x.1.2,(dJ L n x.1.2).length)]else[]:=by
 unfold yJ;rw[dY,List.map_append]
 by_cases h:BQ n b x.1=true
 ·rw[zF h];simp[h]
 rw[zD h];simp[h]
theorem b3Z L n b vis:(yJ L n b vis).length≤vis.length:=by
 unfold yJ;rw[aU];exact dN _ _
structure TB where
  vis:ML Ix.Pl
  rest:ML Ix.Pl
  g:Gs
theorem b5a{I:Heap}{b l c N f}(h:lD l c N f)(O:∀q∈setH b l c N,I q.1=some q.2){x}(Q:x∈l):∃A m k,x.2.1= .map (some A)∧I A=some (kG jZ m k)∧MS m k∧m≠[]∧∀t,kH m t=cv (f x.1 t):=by
 have h1:kvp x∈N.map nvp:=by rw[←h.vals];exact bC Q
 obtain⟨⟨a,A,m,k⟩,G,M⟩:=aI.1 h1;have S:a=x.1:=zC (·.1) M;have W:Value.map (some A)=x.2.1:=zC (·.2) M;subst S;obtain⟨Z,g2,g3⟩:=h.inn _ G;exact⟨A,m,k,W.symm,O (A,_) (.tail _ (aI.2 ⟨_,G,rfl⟩)),Z,g2,g3⟩
theorem a6G{l:ML fE}{c:Nat}{N:vP fE bT}{f:fE→bT→Nat}(h:lD l c N f)(p:fE):p∈l.map (·.1)↔∃t,f p t≠0:=by
 rw[h.keys];constructor
 ·intro A;obtain⟨e,G,rfl⟩:=aI.1 A;obtain⟨_,M,O⟩:=h.inn e G;obtain⟨⟨t,v,n⟩,r,Q⟩:=List.exists_cons_of_ne_nil M;refine⟨t,fun S=>?_⟩;have h2:=O t;rw[S]at h2;have h3:kH e.2.2.1 t=none:=h2;exact pI.1 h3 (by rw[Q];exact .head _)
 rintro⟨t,W⟩;exact dI fun g=>W (h.out p g t)
theorem keys_le{L l c N}(h:lD l c N (fF dP L))(Q:fG L)(S:L.length≤100000)(W:∀e∈L,qA e.2):l.length≤1000000000000:=by
 have h1:(l.map (·.1)).length≤(L.flatMap fun e=>dP e.2).length:=by
  refine MJ h.ms.1 fun p Z=>?_;obtain⟨e,A,G⟩:=(Ix.KU Q).1 ((a6G h p).1 Z);exact List.mem_flatMap.2 ⟨e,A,G⟩
 have h2:∀M:Ix.Ix,(∀e∈M,qA e.2)→(M.flatMap fun e=>dP e.2).length≤M.length*10000000:=by
  intro M
  induction M with
  |nil=>intro _;simp
  |cons a r ih=>
   intro O;have:=ih fun e A=>O e (.tail _ A);have h3:=(O a (.head _)).k;rw[List.flatMap_cons,aK,aQ,Nat.add_mul];omega
 rw[aU]at h1;exact nP (nP h1 (h2 L W)) (Nat.mul_le_mul_right 10000000 S)
theorem a4m{a b:List UInt8}(h:¬b<a)(A:a≠b):a<b:=Std.lt_of_le_of_ne (Std.not_lt.1 h) A
theorem b2z{L l c N}(h:lD l c N (fF dP L))(hs:fG L){n b vis}(W:vis.Perm l){ls}(S:ls.Perm ((yJ L n b vis).map lZ))(ho:ls.Pairwise fun p q=>¬q.1<p.1):ls=((Ix.mP L n b).map fun k=>(k,(dJ L n k).length)).map lZ:=by
 have G:∀x∈vis.filter (fun x=>BQ n b x.1),x.1.1=n∧¬x.1.2<b:=fun x A=>by
  have:=(bU.1 A).2;unfold BQ at this;rw[Bool.and_eq_true,zG,Bool.not_eq_true',decide_eq_false_iff_not]at this;exact this
 have a1:((yJ L n b vis).map (·.1)).Nodup:=by
  unfold yJ;rw[bD];have h1:((vis.filter fun x=>BQ n b x.1).map (·.1)).Nodup:=((W.map _).nodup_iff.2 h.ms.1).sublist (List.filter_sublist.map _);rw[dG,dH]at h1 ⊢;refine(bI.2 fun {x y} M=>?_);have A:=G x (M.subset (.head _));have O:=G y (M.subset (.tail _ (.head _)));have a2:=bI.1 h1 M;exact fun e=>a2 (fC (A.1.trans O.1.symm) e)
 have Q:∀x∈ls,x.2=((dJ L n x.1).length:Int):=fun x A=>by
  obtain⟨y,O,rfl⟩:=aI.1 (S.mem_iff.1 A);obtain⟨z,_,rfl⟩:=aI.1 O;rfl
 have hk:(ls.map (·.1)).Perm ((yJ L n b vis).map (·.1)):=by
  have:=S.map (·.1)
  rwa [bD]at this
 have Z:Ke.Inc (ls.map (·.1)):=by
  unfold Ke.Inc;have h1:=hk.nodup_iff.2 a1;rw[dG,dH]at h1;rw[dH];exact(List.pairwise_and_iff.2 ⟨ho,h1⟩).imp fun {x y} ⟨h2,h3⟩=>a4m h2 h3
 have a0:=Ix.yG hs (n:=n) (b:=b) (ls:=ls.map fun x=>(x.1,x.2.toNat)) (by rw[bD];exact Z) (fun k=>?_) (fun x A=>?_)
 ·rw[←a0,bD]
  conv=>lhs;rw[←List.map_id ls]
  refine List.map_congr_left fun x A=>?_;have:=Q x A;show x=(x.1,((x.2.toNat:Nat):Int));refine fC rfl ?_;show x.2=_;omega
 ·rw[bD];show k∈ls.map (·.1)↔_;rw[hk.mem_iff,←a6G h];unfold yJ;rw[bD];constructor
  ·intro hm;obtain⟨x,A,rfl⟩:=aI.1 hm;obtain⟨h1,h2⟩:=G x A;refine⟨h2,?_⟩;show(n,x.1.2)∈_;rw[←h1,←(W.map (·.1)).mem_iff];exact bC (bU.1 A).1
  rintro⟨h1,h2⟩;rw[←(W.map (·.1)).mem_iff]at h2;obtain⟨x,A,he⟩:=aI.1 h2;refine aI.2 ⟨x,bU.2 ⟨A,?_⟩,?_⟩
  ·unfold BQ;rw[he,zH rfl,Bool.true_and,zI h1];rfl
  show x.1.2=k;rw[he]
 obtain⟨y,O,rfl⟩:=aI.1 A;have:=Q y O;show y.2.toNat=_;rw[this];rfl
theorem a9I ib mb m k0 wm km L t I (a2:qA ((Ix.qK L t).getD []))(a3:I ib=some (jM 114 [.map (some mb),.map wm,.map km]))(Z:I mb=some (kG jZ m k0))(ab:MS m k0)(a4:zS I m L):Pure aB 28 [ptr ib 0,jZ t] I (str (dX L t)):=by
 refine bV ?_;obtain⟨vv,M,xs,N,O⟩:=a4.at t;have ac:=O.len;have ad:=a2.1;refine jU func28 fun w0 _=>?_;refine jL 3 ?_;intro _ _;refine jL 14 ?_;refine bW [0] [] 8 kR ?_;have aa:=a3;have W:=Z;refine jL 5 ?_;refine fH 5 rfl (kQ (kv:=jZ) (l:=m) (a:=t) rfl rfl rfl rfl wV nC FK (dR W)) ?_;refine JA.ev 13 vv rfl M ?_;refine kC (EG xs _ isT _ [] oM _ N.row O.2 (fun x hx=>by obtain⟨p9,c9,G⟩:=qB (O.2 x hx);exact b1g x p9 _ c9 G _)) ?_;refine jS ?_ ?_<;>intro Q a0
 ·have A:xs.find? isT=none:=((tJ isT xs).resolve_right (fun⟨k,x,h,_⟩=>by have G:=mO Q;rw[h]at G;omega)).2;refine kM ?_;rw[b4g O A];exact rT
 obtain⟨k,x,a5,S,A⟩:=(tJ isT xs).resolve_left (fun h=>by have G:=nM Q;rw[h.1]at G;exact G dE);have a1:=(aH.1 S).1;obtain⟨_,a6,a7,_,a8⟩:=id N;rw[a7]at M ⊢;obtain⟨rb,_,rfl,a9⟩:=a8 (jT a1);rw[a5];refine jL 3 ?_;refine bW [0] [] 11 kR ?_;refine jL 5 ?_;refine fH 5 rfl (kQ (kv:=jZ) (l:=m) (a:=t) rfl rfl rfl rfl wV nC FK (dR Z)) ?_;refine JA.ev 22 (.slice (some ⟨rb,0,none⟩) xs.length a6) rfl M ?_;refine kJ (0+k*3) ?_;refine fH 8 rfl (q1 (off':=0+k*3+1) IV kU) ?_;refine fH 9 rfl (jP rfl rfl lQ (dR a9) (lW FN (o:=0) rfl S 1 dE)) ?_;refine kM ?_;rw[b4k O A];exact rT
theorem b0R G O Q t I (M:I G=some (jM 114 [.map none,.map O,.map Q])):Pure aB 28 [ptr G 0,jZ t] I (str []):=by
 refine bV ?_;refine jU func28 fun w0 _=>?_;refine jL 3 ?_;intro _ _;refine jL 14 ?_;refine bW [0] [] 8 kR ?_;have N:=M;refine jL 5 ?_;refine fH 5 rfl (qJ (kv:=jZ) (a:=t) rfl rfl rfl rfl wV nC FK) ?_;refine kC (EG [] _ isT _ [] dE _ jW.nil (fun x A=>by cases A) (fun x A=>by cases A)) ?_;refine jL 1 ?_;refine JA.ev 14 (i64 (-1)) rfl rfl ?_;refine kM ?_;exact rT
theorem b3f A L t I (G:zJ I A L):Pure aB 28 [ptr A 0,jZ t] I (str (dX L t)):=by
 obtain⟨_,M,N,O,W,-,-⟩:=G.parts;rcases W with⟨rfl,rfl⟩|⟨b,l,c,rfl,Q,S,Z⟩
 ·exact b0R A M N t I O
 exact a9I A b l c M N L t I (a1s G t) O Z Q S
theorem a6M a n c (A:n≤c) I:Pure aB 222 [.slice a n c] I (.slice a n n):=by
 refine bV ?_;refine jU func222 fun w0 _=>?_;refine jL 12 ?_;refine cO (a9B (k:=n) (m:=n) rfl rfl rfl rfl zO AP (aP _) A) ?_;refine jV ?_;exact rT
theorem b6y{α:Type}{T:TypeId}{f:α→List Value}{l:List α}{v:Value}{H:HL}(h:AQ T f l v H):∃a c,v= .slice a l.length c∧l.length≤c:=by
 rcases h with⟨rfl,rfl,rfl⟩|⟨b,c,sp,rfl,A,rfl⟩
 ·exact⟨none,0,rfl,aP _⟩
 exact⟨_,c,rfl,A⟩
theorem b1P{α:Type}{T:TypeId}{f:α→List Value}{l:List α}{a:Option Addr}{c:Nat}{H:HL}(h:AQ T f l (.slice a l.length c) H){k:Nat}(G:k≤l.length):AQ T f (l.take k) (.slice a k k) H:=by
 rcases h with⟨rfl,A,rfl⟩|⟨b,c,sp,A,M,rfl⟩
 ·cases A;have:k=0:=by simpa using G
  subst this;exact .inl rT
 cases A;refine .inr ⟨b,k,(l.drop k).flatMap f++sp,by rw[aA,dK G],by rw[aA];omega,?_⟩;rw[←List.append_assoc,←dV,List.take_append_drop]
theorem b3r{L n s A ls a c v H}(G:ls=((Ix.mP L n (Ix.keyOf n s)).map fun k=>(k,(dJ L n k).length)).map lZ)(h:AQ 268 oU ls v H)(M:v= .slice a ls.length c):a7E (fM L n s A) (.slice a (min ls.length A.toNat) (min ls.length A.toNat)) H:=by
 subst M;have h1:=b1P h (Nat.min_le_left ls.length A.toNat);have h2:ls.take (min ls.length A.toNat)=(fM L n s A).map lZ:=by
  rw[←Ix.a1I,gG,←G];rcases Nat.le_total ls.length A.toNat with g|g
  ·rw[dK g,List.take_length,aF g]
  rw[aS g]
 rw[h2]at h1;exact h1
theorem b4u{L}(G:fG L){m k}(M:MS m k){p}(A:∀t,kH m t=cv (fF dP L p t)){n}(N:p.1=n):((m.length:Nat):Int)=((dJ L n p.2).length:Int):=by
 subst N;have h:=Ix.b1w G (n:=p.1) (k:=p.2) (ts:=m.map (·.1)) M.1 fun t=>by
  constructor
  ·intro h1;have h2:kH m t≠none:=fun g=>pI.1 g h1;rw[A]at h2;exact fun g=>h2 (by rw[show fF dP L p t=0 from g];rfl)
  intro h1;refine dI fun g=>?_;have h2:=pI.2 g;rw[A,a8V h1]at h2;cases h2
 rw[aU]at h;rw[h]
theorem a9A(n:Nat) A:(if (if (0:Int)>A then(0:Int)else A)<(n:Int)then(if (0:Int)>A then(0:Int)else A)else(n:Int))=((min n A.toNat:Nat):Int):=by
 repeat(first|omega|split)
theorem a9G ib kb vm wm l c N L n s (hs : s.length ≤ 100000000) G I (Q : Ix.nO L) (S : lD l c N (Ix.cnt Ix.IG L)) (ao : l.length ≤ 1000000000000) (aq : I ib = some (jM 114 [.map vm, .map wm, .map (some kb)])) (hI : ∀ q ∈ setH kb l c N, I q.1 = some q.2) : jO Tryz.prog 160 [ptr ib 0, str n, str s, i64 G] I [] (fun e _ H' => ∃ v, e = .returned v ∧ a7E (Ix.scan L n s G) v H') := by
 have W : I kb = some (kG nD l c) := hI (kb, _) (.head _)
 refine jU func160 fun w0 _ => ?_
 refine kC (WL n s hs _) ?_
 refine jL 15 ?_
 refine J.op rfl (uX (kv := nD) (l := l) rfl rfl rfl rfl pV (jR.EH W) ?_)
 intro b2 _
 refine jL 3 ?_
 refine Cj.loop (ι := TB) (fun y => (y.vis ++ y.rest).Perm l ∧ kZ w0.heap.size 2 (yJ L n (Ix.keyOf n s) y.vis).length (((yJ L n (Ix.keyOf n s) y.vis).map lZ).flatMap oU) y.g) (fun y => y.rest.length) (fun y => [(1, str n), (3, i64 G), (9, str (Ix.keyOf n s)), (10, gV (yJ L n (Ix.keyOf n s) y.vis).length y.g), (22, ptr b2 0)]) (fun y => _) (fun y => (b2, DJ kb c y.vis c) :: gH 268 (((yJ L n (Ix.keyOf n s) y.vis).map lZ).flatMap oU) y.g) ⟨[], l, none⟩ ⟨.refl _, rfl, rfl⟩ ⟨rfl, rfl, rfl, rfl, rfl, trivial⟩ rfl rfl ?_
 rintro ⟨vis, rest, g⟩ ⟨Z, hg⟩
 dsimp only at Z hg ⊢
 have ab := Z.length_eq
 rw [List.length_append] at ab
 have ap := b3Z L n (Ix.keyOf n s) vis
 refine jL 2 ?_
 refine J.op rfl (xE (kv := nD) (l := l) 0 rfl rfl rfl rfl rfl (jR.EH W) S.ms.2.2 (Nat.le_refl _) S.ms.2.1 Z ?_ ?_)
 ·rintro x M H9 a0 O ⟨-, hset⟩; simp only [List.set_cons_zero, List.set_cons_succ] at hset; subst hset
  obtain ⟨mb, m, k, ae, af, ag, _, ah⟩ := b5a S hI (O.mem_iff.1 (List.mem_append_left _ (List.mem_append_right _ (.head _))))
  refine jL 10 ?_
  refine J.z (BD (kv := nD) (l := l) rfl rfl (jR.at 0 rfl) (jR.EH W) (O.mem_iff.1 (List.mem_append_left _ (List.mem_append_right _ (.head _)))) S.ms.2.1) ?_
  refine jL 2 ?_
  refine J.ev 27 (.map (some mb)) rfl ae ?_
  refine jL 1 ?_
  intro _ _
  refine mX (fun a1 ac => ?_) (fun a1 ac => ?_)
  ·have a2 : x.1.1 = n := lU a1
   refine jL 3 ?_
   refine J.zg (a2m rfl rfl rfl) ?_
   refine mW (fun a3 => ?_) (fun a3 => ?_)
   ·have A : BQ n (Ix.keyOf n s) x.1 = true := by unfold BQ; rw [decide_eq_true a2, Bool.true_and]; exact a3
    refine jL 5 ?_
    refine J.z (yP (kv := jZ) (l := m) rfl rfl oK (jR.EH af)) ?_
    refine J.ev 42 (i64 ((Ix.oG L n x.1.2).length : Int)) rfl (congrArg i64 (b4u Q ag ah a2)) ?_
    refine J.z (jX (pl := #[(0, 1), (1, 1)]) rfl rfl SN rfl b3H (fun w => by simp [oJ, kU]) (pR.part rfl rfl rfl (oD.c oD.z) (pR.part rfl rfl rfl (oD.s (oD.c oD.z)) pR.none))) ?_
    refine J.op rfl (jY rfl rfl rfl zO AP SN rfl rfl rfl rfl (xM.agg rfl xM.none) ?_)
    intro _ _
    refine J.op rfl (kK (by' := 23) [_, _, _] rfl rfl rfl rfl rfl zO (.inr ⟨_, zO⟩) (by kernel_rfl) AP SN rfl hg rfl (Src.slice (jR.at 0 rfl) rfl rfl rfl) (by omega) ?_)
    intro g8 ai
    refine jL 3 ?_
    refine Ej.keep (Keeps.d (Keeps.d (Keeps.k Keeps.r))) ?_
    refine Ej.round ⟨vis ++ [x], M, g8⟩ ⟨O, by dsimp only; rw [uF, if_pos A, List.length_append, List.map_append, List.flatMap_append]; exact ai⟩ (by have h := a0.length_eq; simp only [List.length_cons] at h; dsimp only; omega) ⟨rfl, rfl, rfl, by dsimp only; rw [uF, if_pos A, List.length_append]; rfl, rfl, trivial⟩ rfl (by dsimp only; rw [uF, if_pos A, List.map_append, List.flatMap_append]; rfl)
   have A : ¬ BQ n (Ix.keyOf n s) x.1 = true := by unfold BQ; rw [decide_eq_true a2, Bool.true_and]; exact fun e => Bool.noConfusion (e.symm.trans a3)
   refine jL 2 ?_
   refine Ej.keep (Keeps.d (Keeps.k Keeps.r)) ?_
   refine Ej.round ⟨vis ++ [x], M, g⟩ ⟨O, by dsimp only; rw [uF, if_neg A, List.append_nil]; exact hg⟩ (by have h := a0.length_eq; simp only [List.length_cons] at h; dsimp only; omega) ⟨rfl, rfl, rfl, by dsimp only; rw [uF, if_neg A, List.append_nil]; rfl, rfl, trivial⟩ rfl (by dsimp only; rw [uF, if_neg A, List.append_nil])
  have A : ¬ BQ n (Ix.keyOf n s) x.1 = true := by unfold BQ; rw [decide_eq_false (lY a1)]; exact Bool.false_ne_true
  refine jL 10 ?_
  refine Ej.keep (Keeps.d (Keeps.k Keeps.r)) ?_
  refine Ej.round ⟨vis ++ [x], M, g⟩ ⟨O, by dsimp only; rw [uF, if_neg A, List.append_nil]; exact hg⟩ (by have h := a0.length_eq; simp only [List.length_cons] at h; dsimp only; omega) ⟨rfl, rfl, rfl, by dsimp only; rw [uF, if_neg A, List.append_nil]; rfl, rfl, trivial⟩ rfl (by dsimp only; rw [uF, if_neg A, List.append_nil])
 intro ad
 refine jL 11 ?_
 have aj : vis.Perm l := by rw [ad, List.append_nil] at Z; exact Z
 have a6 : kZ w0.heap.size 2 ((yJ L n (Ix.keyOf n s) vis).map lZ).length (((yJ L n (Ix.keyOf n s) vis).map lZ).flatMap oU) g := by rw [List.length_map]; exact hg
 refine jL 2 ?_
 refine J.ev 46 (gV ((yJ L n (Ix.keyOf n s) vis).map lZ).length g) rfl (by rw [List.length_map]) ?_
 refine II [_] (VG ((yJ L n (Ix.keyOf n s) vis).map lZ) g a6 (by rw [List.length_map]; omega) _) ?_
 rintro _ _ H9 _ ⟨ls, a7, al, h, rfl⟩; cases h
 have am := b2z S Q aj a7 al
 have a4 : ((yJ L n (Ix.keyOf n s) vis).map lZ).length = ls.length := a7.length_eq.symm
 have an : kZ w0.heap.size 2 ls.length (ls.flatMap oU) g := by rw [← a4]; exact LU a6 (by rw [mG pJ, mG pJ, a4])
 refine jL 3 ?_
 obtain ⟨a5⟩ : Nonempty (AQ 268 oU ls (gV ls.length g) (gH 268 (ls.flatMap oU) g)) := ⟨AQ.b6m pJ (by decide) rfl an⟩
 obtain ⟨sa, sc, a8, a9⟩ : ∃ a c, gV ls.length g = .slice a ls.length c ∧ ls.length ≤ c := b6y a5
 have aa : gV (yJ L n (Ix.keyOf n s) vis).length g = .slice sa ls.length sc := by rw [← a8, ← a4, List.length_map]
 refine jL 2 ?_
 refine J.ev 48 (.slice sa ls.length sc) rfl aa ?_
 refine jL 1 ?_
 refine J.ev 49 (.slice sa ls.length sc) rfl aa ?_
 refine jL 2 ?_
 refine J.z (yS rfl rfl rfl) ?_
 refine J.z (uN rfl rfl rfl) ?_
 refine J.ev 53 (i64 ((min ls.length G.toNat : Nat) : Int)) rfl (congrArg i64 (a9A _ _)) ?_
 refine J.z (qV (k := (min ls.length G.toNat)) rfl rfl rfl zO AP rfl (nP (Nat.min_le_left _ _) a9)) ?_
 refine kC (a6M sa (min ls.length G.toNat) sc (nP (Nat.min_le_left _ _) a9) _) ?_
 refine jL 4 ?_
 refine Ej.keep (H' := gH 268 (ls.flatMap oU) g) (List.sublist_append_right [_] _) ?_
 refine jV ?_
 exact ⟨_, rfl, b3r am a5 a8⟩
theorem a9S G O Q n s (S:s.length≤100000000) A I (W:I G=some (jM 114 [.map O,.map Q,.map none])):jO aB 160 [ptr G 0,str n,str s,i64 A] I [] (fun e _ H'=>e= .returned (.slice none 0 0)∧H'=[]):=by
 refine jU func160 fun w0 _=>?_;refine kC (WL n s S _) ?_;refine jL 15 ?_;refine dZ rfl (sF rfl rfl rfl rfl pV ?_);intro _ _;refine jL 3 ?_;refine Cj.rounds 1 ?_;refine Rj.succ ?_;refine jL 2 ?_;refine dZ rfl (tY 0 rfl rfl rfl rfl rfl ?_);refine II [_] (VG (base:=0) [] none rT dE _) ?_;rintro _ _ _ _ ⟨ts,M,_,h,rfl⟩;cases h;have N:=M.eq_nil;subst N;refine jL 8 ?_;refine cO (yS rfl rfl rfl) ?_;refine cO (uN rfl rfl rfl) ?_;refine aW 53 (i64 ((0:Nat):Int)) rfl (zC i64 (a9A 0 A |>.trans (by rw[Nat.zero_min]))) ?_;refine cO (qV (k:=0) rfl rfl rfl zO AP rfl (aP _)) ?_;refine kC (a6M none 0 0 (aP _) _) ?_;refine kM ?_;exact rT
theorem a9P{L}(G:fG L)(M:∀p t,fF dP L p t=0) n s A:fM L n s A=[]:=by
 have h:=Ix.yG G (n:=n) (b:=Ix.keyOf n s) (ls:=[]) List.Pairwise.nil (fun k=>⟨fun h=>(by cases h),fun⟨_,t,N⟩=>absurd (M _ t) N⟩) (fun x O=>by cases O);rw[←Ix.a1I,←h,List.take_nil]
theorem b5e M L n s (O:s.length≤100000000) A I (G:zJ I M L):jO aB 160 [ptr M 0,str n,str s,i64 A] I [] (fun e _ H'=>∃v,e= .returned v∧a7E (fM L n s A) v H'):=by
 obtain⟨Q,S,_,W,-,-,hK⟩:=G.parts;have hv:∀e∈L,qA e.2:=by
  obtain⟨o,h1,_⟩:=G;cases o with
  |none=>rw[show L=[] from h1];intro e he;cases he
  |some s=>exact nZ.UU h1
 rcases hK with⟨rfl,hz⟩|⟨b,l,c,N,rfl,Z,hq⟩
 ·rw[a9P G.pU hz];exact(a9S M Q S n s O A I W).mono fun e _ H' _ ⟨h1,h2⟩=>⟨_,h1,.inl ⟨rfl,rfl,h2⟩⟩
 exact a9G M b Q S l c N L n s O A I G.pU Z (keys_le Z G.pU G.big hv) W hq
theorem b3z n s (M:s.length≤100000000) I:jO aB 32 [.pointer none,str n,str s] I [] (fun e _ H'=>e= .returned (.slice none 0 0)∧H'=[]):=by
 refine jU func32 fun w0 _=>?_;refine kL (yE s oM _) ?_;intro _ _ _ _ A;obtain⟨_,h,G,rfl⟩:=A;cases h;obtain⟨wp,_,rfl⟩:=qB G;refine jV ?_;exact rT
theorem a8H n s (M:s.length≤100000000) I:jO aB 33 [.pointer none,str n,str s] I [] (fun e _ H'=>e= .returned (.slice none 0 0)∧H'=[]):=by
 refine jU func33 fun w0 _=>?_;refine jL 3 ?_;intro _ _;refine jL 1 ?_;intro _ _;refine kL (yE s oM _) ?_;intro _ _ _ _ A;obtain⟨_,h,G,rfl⟩:=A;cases h;obtain⟨wp,_,rfl⟩:=qB G;refine jL 1 ?_;intro _ _;refine kM ?_;exact rT
theorem b5y n s I:jO aB 34 [.pointer none,str n,str s] I [] (fun e _ H'=>e= .returned (.slice none 0 0)∧H'=[]):=by
 refine jU func34 fun w0 _=>?_;refine jV ?_;exact rT
theorem b1p n s A I:jO aB 160 [.pointer none,str n,str s,i64 A] I [] (fun e _ H'=>e= .returned (.slice none 0 0)∧H'=[]):=by
 refine jU func160 fun w0 _=>?_;refine jV ?_;exact rT
theorem b2S t I:Pure aB 28 [.pointer none,jZ t] I (str []):=by
 refine bV ?_;refine jU func28 fun w0 _=>?_;refine jL 3 ?_;intro _ _;refine kM ?_;exact rT
abbrev jQ (e:nI):bT×List Ix.V:=(e.t,fO e.fs)
theorem ZY{es:List nI}{i e}(h:es[i]?=some e):bJ ((es.take (i+1)).map jQ) []=Ix.rW e.t (fO e.fs) (bJ ((es.take i).map jQ) []):=by
 rw[yH jQ h];unfold bJ;rw[List.foldl_append];rfl
def nR (I:Heap) (es:List nI) (v:Value):Prop:=jW oH I es v∧∀e∈es,xO I e.fs e.v
theorem nR.mono{I G es v}(h:nR I es v)(A:Le I G):nR G es v:=⟨h.1.mono A,fun e M=>(h.2 e M).mono A⟩
structure BA where
  i:Nat
  J:Heap
  o:Option Ist
theorem a0K{e p n c}(h:e.v= .slice p n c):(oH e).all fP=true:=by unfold oH;rw[h];rfl
theorem b2H es v (ab:es.length≤1000)(a5:∀e∈es,xP e.fs) I (Z:nR I es v):jO aB 48 [v] I [] (fun e I' H'=>∃ib o,e= .returned (ptr ib 0)∧uY I' o (bJ (es.map jQ) [])∧H'=RH ib o):=by
 obtain⟨p,c,rfl,_,-⟩:=id Z.1;refine jU func48 fun w0 _=>?_;refine jL 7 ?_;refine cO (jX (pl:= #[(0,1),(1,1),(2,1)]) rfl rfl zeroValue114 rfl IZ (fun w=>by simp[EM,EY]) pR.none) ?_;refine jL 1 ?_;intro b1 _;refine jL 12 ?_;refine eU (ι:=BA) (fun y=>y.i≤es.length∧Le I y.J∧uY y.J y.o (bJ ((es.take y.i).map jQ) [])∧(bJ ((es.take y.i).map jQ) []).length≤y.i) (fun y=>es.length-y.i) (fun y=>[(3,ptr b1 0),(8,.slice p es.length c),(9,i64 (es.length:Int)),(10,i64 (y.i:Int))]) (fun y=>y.J) (fun y=>RH b1 y.o) ⟨0,_,none⟩ ⟨bG _,Le.refl _,rfl,aP _⟩ rT rfl rfl ?_;rintro⟨i,_,o⟩ ⟨hi,O,G,a2⟩;dsimp only at hi O G a2 ⊢;have hE:=Z.mono O;refine jS ?_ ?_<;>intro a6 a3
 ·have a0:i<es.length:=oM;obtain⟨S,M⟩:∃e,es[i]?=some e:=⟨_,kW a0⟩;have a1:=lX M;obtain⟨⟨p1,c1,a7,_,hp⟩,Q⟩:=id hE;cases a7;obtain⟨_,eo,_,_,_,_,rfl,W,a8⟩:=hp (jT a0);have N:=Q S a1;clear Q;obtain⟨_,_,a9,-,-⟩:=id N.1;refine kJ (eo+i*5) ?_;refine cO (q2 isAgg59 vO (jR.EH W) (kY pF a8 M)) ?_;refine jL 1 ?_;intro _ _;refine dZ rfl (oP 0 rfl rfl rfl rfl rfl (a0K a9) vO rfl rfl lsA lS.z ?_);refine II [_] (b0p b1 o (bJ ((es.take i).map jQ) []) S _ G oM (a5 S a1) N) ?_;intro _ _ _ A aa;have hE:=hE.mono A;have G:=G.mono A;have O:=O.mono A;have W:=A _ _ W;have N:=N.mono A;obtain⟨o1,h,a4,rfl⟩:=aa;cases h;refine jL 7 ?_;refine dQ (dB eX) ?_;refine bK ⟨i+1,_,o1⟩ ⟨dO,O,by dsimp only;rw[ZY M];exact a4,by dsimp only;rw[ZY M];have:=MO S.t (fO S.fs) (bJ ((es.take i).map jQ) []);omega⟩ dO rT rfl rfl
 rw[aF (oM:es.length≤i)]at G;refine jV ?_;exact⟨_,o,rfl,G,rfl⟩
end Go.Proofs.YtekmeaoblpfnpaaGreatDoor
end
namespace Go.Sx
open Go
section
variable {P:Program} {K i j:TypeId} {f0 f1:Field}
def EqK {α:Type} [BEq α] (P:Program) (K:TypeId) (kv:α→Array Value):Prop:=∀a b w,(Op.equalIn 10000 K (.agg (kv a)) (.agg (kv b))).run P w= .ok (a == b) w
theorem EqK.a7X(N:P.underlying K=some (.struct #[f0,f1]))(O:P.stoodInHeld K=false)(Q:f0.name≠ "_")(S:f1.name≠ "_")(W:f0.offset=0)(Z:f1.offset=1)(t0:f0.type=i)(A:f1.type=i)(G:P.underlying i=some (.int .i64))(M:∀w,(isAgg i).run P w= .ok false w):
 EqK P K (fun a:Int×Int=> #[i64 a.1,i64 a.2]):=by
 subst t0;exact fun a b w=>KE N O Q S W Z M (A▸M) (x0:=i64 a.1) (x1:=i64 a.2) (y0:=i64 b.1) (y1:=i64 b.2) w (fun d w=>run_equalIn_int w d _ .i64 .i64 a.1 b.1 G) (fun d w=>run_equalIn_int w d _ .i64 .i64 a.2 b.2 (A▸G)) 9998
end
section
variable {cx:Cx} {S:World→Prop} {ev0:Env} {o:Oper} {α:Type} [BEq α] {t:TypeId} {kv:α→Array Value}
theorem a6W{x y U a b}{vs A:List Value}(Z:o.op= .binOp .eql t x y U)(M:ev ev0 x=some (.agg vs.toArray))(N:ev ev0 y=some (.agg A.toArray))(O:vs.toArray=kv a)(Q:A.toArray=kv b)
 (hK:EqK cx.P t kv)(hq:cx.P.eqGuardType cx.P.depth t=false):kX cx o ev0 S (.bool (a == b)):=by
 intro w0 w W _;have G:(eqGuard .eql t x y (.agg vs.toArray) (.agg A.toArray)).run cx.P w= .ok () w:=by
  simp[eqGuard,hq]
 have h1:=run_eql_struct (P:=cx.P) w t vs.toArray A.toArray;rw[O]at h1 G M;rw[Q]at h1 G N;rw[hK a b w]at h1;simp[execOp,Z,W.eval M,W.eval N,G,h1]
theorem b4O{x y U a b}{vs A:List Value}(Z:o.op= .binOp .neq t x y U)(M:ev ev0 x=some (.agg vs.toArray))(N:ev ev0 y=some (.agg A.toArray))(O:vs.toArray=kv a)(Q:A.toArray=kv b)
 (hK:EqK cx.P t kv)(hq:cx.P.eqGuardType cx.P.depth t=false):kX cx o ev0 S (.bool (a != b)):=by
 intro w0 w W _;have G:(eqGuard .neq t x y (.agg vs.toArray) (.agg A.toArray)).run cx.P w= .ok () w:=by
  simp[eqGuard,hq]
 have h1:=run_neq_struct (P:=cx.P) w t vs.toArray A.toArray;rw[O]at h1 G M;rw[Q]at h1 G N;rw[hK a b w]at h1;simp[execOp,Z,W.eval M,W.eval N,G,h1,bne]
end
section
variable {cx:Cx} {S:World→Prop} {ev0:Env} {o:Oper}
theorem a1E{x T k A v}(G:o.op= .field T x k)(M:ev ev0 x=some A)(N:∀w,(Instr.field T A k).run cx.P w= .ok v w):kX cx o ev0 S v:=by
 intro w0 w O _;simp[execOp,G,O.eval M,N]
end
theorem Pure.borrow{P f args I B v}(A:Enters P f)(h:∀J,Le I J→(∀p∈B,J p.1=some p.2)→Pure P f args J v):jO P f args I B (fun e _ H'=>e= .returned v∧H'=B):=by
 refine jO.a1y A fun G M=>?_;refine(jO.borrow (h (CO B I) (a3D M) (GV G))).mono fun e _ H' _ ⟨J,K,⟨h1,h2,h3⟩,N,_,_⟩=>⟨h1,?_⟩;subst h3;rw[N,fJ]
end Go.Sx
section
namespace Go.Proofs.YtekmeaoblpfnpaaGreatDoor
open _root_.Go.Proofs.Tryz
open Go Go.Sx
abbrev a7A (t:bT):Array Value:= #[i64 t.1,i64 t.2]
theorem a8q:EqK aB 54 a7A:=EqK.a7X a4k kR dE dE rfl rfl rfl rfl tU3 JF
theorem LM{cs sp:List Value}{o k}{es:List nI}{x}(h:cs.drop o=es.flatMap oH++sp)(A:es[k]?=some x):(cs.drop (o+k*5)).take 2=recC x.t:=by
 have h1:=kY pF h A;rw[show(cs.drop (o+k*5)).take 2=((cs.drop (o+k*5)).take 5).take 2 by rw[List.take_take,show min 2 5=2 from rfl],h1];rfl
theorem b2t{a b}(h:a.1≠b.1):aC a b=decide (a.1<b.1):=by unfold aC;rw[zI (p:=a.1=b.1) h];simp
theorem b2l{a b}(h:a.1=b.1):aC a b=decide (a.2<b.2):=by unfold aC;rw[zH h,h,zI (Int.lt_irrefl _)];simp
def lK (es:List nI) (t:bT):Nat:=(es.takeWhile fun x=>aC x.t t).length
def nJ (es:List nI) (t:bT):Bool:=match es[lK es t]? with
 |none=>false
 |some x=>x.t == t
def xK (es:List nI) (e:nI):List nI:=es.take (lK es e.t)++[e]++es.drop (if nJ es e.t then lK es e.t+1 else lK es e.t)
def uI (es:List nI) (t:bT):List nI:=if nJ es t then es.take (lK es t)++es.drop (lK es t+1)else es
theorem vS x es t:lK (x::es) t=if aC x.t t then lK es t+1 else 0:=by
 unfold lK;rw[List.takeWhile_cons];split<;>simp_all
theorem LG:∀(es:List nI) (t:bT),lK es t≤es.length
 |[],_=>bG _
 |x::r,t=>by rw[vS];have:=LG r t;split<;>simp<;>omega
theorem a0o:∀{es:List nI} {t:bT} {k:Nat},(∀x∈es.take k,aC x.t t=true)→(∀x,es[k]?=some x→aC x.t t=false)→k≤es.length→lK es t=k
 |[],_,k,_,_,hk=>by
  have:k=0:=by simpa using hk
  subst this;rfl
 |x::r,t,0,_,h2,_=>by rw[vS,zD (by rw[h2 x rfl];decide)]
 |x::r,t,k+1,h1,h2,hk=>by
  rw[vS,zF (h1 x (by rw[dW];exact .head _)),a0o (k:=k) (fun y A=>h1 y (by rw[dW];exact .tail _ A)) (fun y A=>h2 y (by rw[List.getElem?_cons_succ];exact A)) (by simpa using hk)]
theorem a8P{es t k x}(h:lK es t=k)(A:es[k]?=some x):nJ es t=(x.t == t):=by unfold nJ;rw[h,A]
theorem a2i{es t k}(h:lK es t=k)(A:es.length≤k):nJ es t=false:=by unfold nJ;rw[h,List.getElem?_eq_none A]
theorem b3e{es:List nI}{t k x}(h:∀y∈es.take k,aC y.t t=true)(A:es[k]?=some x)(M:aC x.t t=true):∀y∈es.take (k+1),aC y.t t=true:=by
 obtain⟨G,A⟩:=aH.1 A;rw[aT G,A];intro y N;rcases bY.1 N with g|g
 ·exact h y g
 rw[eF.1 g];exact M
theorem CB x es t:nJ (x::es) t=if aC x.t t then nJ es t else x.t == t:=by
 unfold nJ;rw[vS]
 by_cases h:aC x.t t=true
 ·rw[zF h,zF h];rfl
 rw[zD h,zD h];rfl
theorem a4g e:∀es:List nI,(xK es e).map jQ=Ix.rW e.t (fO e.fs) (es.map jQ)
 |[]=>rfl
 |x::r=>by
  have A:=a4g e r;unfold xK at A ⊢;rw[vS,CB,dS];unfold Ix.rW
  by_cases h:aC x.t e.t=true
  ·rw[zF h,zF h,zF h,←A];have G:(if nJ r e.t=true then lK r e.t+1+1 else lK r e.t+1)=(if nJ r e.t=true then lK r e.t+1 else lK r e.t)+1:=by split<;>rfl
   rw[G];rfl
  rw[zD h,zD h,zD h]
  by_cases h2:x.t=e.t
  ·rw[zF h2,zF (by simpa using h2)];rfl
  rw[zD h2,zD (by simpa using h2)];rfl
theorem a3S{t}{L:List nI}(h:∀x∈L,x.t≠t):dD t (L.map jQ)=L.map jQ:=by
 unfold dD;rw[List.filter_eq_self];intro y A;obtain⟨x,G,rfl⟩:=aI.1 A;exact zH (h x G)
theorem YQ t:∀es:List nI,fG (es.map jQ)→(uI es t).map jQ=dD t (es.map jQ)
 |[],_=>rfl
 |x::r,hs=>by
  have A:=List.pairwise_cons.1 hs;have N:=YQ t r A.2;unfold uI at N ⊢;rw[vS,CB,dS];have Q:dD t (jQ x::r.map jQ)=if x.t=t then dD t (r.map jQ)else jQ x::dD t (r.map jQ):=by
   unfold dD;rw[List.filter_cons]
   by_cases g:x.t=t
   ·rw[zF g,zD (by simp[jQ,g])]
   rw[zD g,zF (by simp[jQ,g])]
  have S:∀u:bT,aC u x.t=false→u≠x.t→True:=fun _ _ _=>trivial;rw[Q]
  by_cases h:aC x.t t=true
  ·have O:x.t≠t:=fun g=>by rw[g,Ix.nH]at h;cases h
   rw[zF h,zF h,zD O,←N]
   split<;>rfl
  rw[zD h,zD h]
  by_cases g:x.t=t
  ·rw[zF g,zF (by simpa using g),a3S fun y G M=>by
    have:=A.1 (jQ y) (bC G);simp only[jQ]at this;rw[M,←g,Ix.nH]at this;cases this]
   rfl
  rw[zD g,zD (by simpa using g),a3S fun y G M=>by
   have h1:=A.1 (jQ y) (bC G);simp only[jQ]at h1;rw[M]at h1;exact h h1]
  rfl
theorem b3d es e:(xK es e).length≤es.length+1:=by
 unfold xK;have:=LG es e.t;simp only[aK,aA,aJ,bM]
 split<;>omega
theorem b0s es t:(uI es t).length≤es.length:=by
 unfold uI
 split
 ·have:=LG es t;simp only[aK,aA,aJ];omega
 exact aP _
theorem a3k{es e x}(h:x∈xK es e):x=e∨x∈es:=by
 unfold xK at h;rcases bY.1 h with g|g
 ·rcases bY.1 g with g|g
  ·exact .inr (aX g)
  exact .inl (eF.1 g)
 exact .inr (aO g)
theorem a1t{es t x}(h:x∈uI es t):x∈es:=by
 unfold uI at h
 split at h
 ·rcases bY.1 h with g|g
  ·exact aX g
  exact aO g
 exact h
theorem RY{es t}(h:nJ es t=true):lK es t<es.length:=by
 rcases Nat.lt_or_ge (lK es t) es.length with g|g
 ·exact g
 rw[a2i rfl g]at h;cases h
theorem GI{I es v}(h:nR I es v){l:List nI}(A:∀x∈l,x∈es):∀x∈l,(oH x).all fP=true:=fun x G=>by
 obtain⟨p,c,M,-⟩:=(h.2 x (A x G)).1;exact a0K M
theorem nR.nil{I}:nR I [] (.slice none 0 0):=⟨jW.nil,fun _ h=>by cases h⟩
theorem nR.len{I es v}(h:nR I es v):∃p c,v= .slice p es.length c∧es.length≤c:=let ⟨p,c,h,A,_⟩:=h.1;⟨p,c,h,A⟩
theorem a3Z a b I:Pure aB 29 [jZ a,jZ b] I (.bool (aC a b)):=by
 refine bV ?_;refine jU func29 fun w0 _=>?_;refine jL 3 ?_;intro _ _;refine jL 1 ?_;intro _ _;refine jS ?_ ?_<;>intro A G
 ·have M:=b2t (bne_iff_ne.1 A);refine kM ?_;rw[M];exact rT
 have M:=b2l (sJ A);refine kM ?_;rw[M];exact rT
theorem a4Z rb w es t (hl:es.length≤1000000) I (a7:I rb=some (jM 50 [w]))(hE:nR I es w):Pure aB 92 [ptr rb 0,jZ t] I (.tuple #[i64 (lK es t:Int),.bool (nJ es t)]):=by
 refine bV ?_;obtain⟨p,c,rfl,_,hp⟩:=id hE.1;refine jU func92 fun w0 _=>?_;refine jL 3 ?_;intro b1 _;refine jL 11 ?_;refine eU (ι:=Nat) (fun y=>y≤es.length∧∀x∈es.take y,aC x.t t=true) (fun y=>es.length-y) (fun y=>[(0,ptr rb 0),(3,ptr b1 0),(6,i64 (y:Int))]) (fun y=>_) (fun y=>[(b1,jM 54 [i64 t.1,i64 t.2])]) 0 ⟨bG _,fun x hx=>by simp at hx⟩ rT rfl rfl ?_;rintro y ⟨hy,O⟩;refine jS ?_ ?_<;>intro a8 a4
 ·have a1:y<es.length:=oM;obtain⟨x,A⟩:∃x,es[y]?=some x:=⟨_,kW a1⟩;obtain⟨_,eo,_,_,_,_,rfl,a2,a3⟩:=hp (jT a1);refine jL 4 ?_;refine bW [0] [] 11 kR ?_;have a9:=a7;have a0:=a2;refine kJ (eo+y*5) ?_;refine jL 1 ?_;refine fH 7 rfl (q2 oC lG (dR a0) (LM a3 A)) ?_;refine kC (a3Z x.t t _) ?_;refine mW ?_ ?_<;>intro Q
  ·have S:aC x.t t=false:=by have h:=Q;simpa using h
   refine jL 2 ?_;refine Ej.a3n rfl ?_;refine jL 4 ?_;have G:lK es t=y:=a0o O (fun z hz=>by rw[A]at hz;cases hz;exact S) hy;have W:=a8P G A;refine bW [0] [] 22 kR ?_;refine jL 9 ?_;refine JA.split 37 rfl (fun M=>?_) (fun M=>?_)
   rotate_left
   ·have a5:=nM M;omega
   have a5:=mO M;refine jL 5 ?_;refine JA.fix lI (fun N=>?_);refine JA.tkG 14 8 37 true _ rfl N rfl rfl M (q6 (off':=eo+y*5) tZ vO) ?_;refine jL 1 ?_;refine JA.fix lI (fun N=>?_);refine JA.tkG 16 8 37 true _ rfl N rfl rfl M (q2 oC lG (dR a2) (LM a3 A)) ?_;refine jL 1 ?_;refine JA.fix lI (fun N=>?_);refine JA.tkG 18 8 37 true _ rfl N rfl rfl M (a6W (kv:=a7A) (a:=x.t) (b:=t) rfl rfl rfl rfl rfl a8q kR) ?_;refine kM ?_;rw[G,W];exact rT
  have S:aC x.t t=true:=by have h:=Q;simpa using h
  refine jL 8 ?_;refine bK (y+1) ⟨oM,b3e O A S⟩ oM rT rfl rfl
 refine jL 6 ?_;have G:lK es t=y:=a0o O (fun x hx=>absurd (aH.1 hx).1 oM) hy;have W:=a2i G oM;refine bW [0] [] 22 kR ?_;refine jL 9 ?_;refine JA.split 37 rfl (fun Z=>?_) (fun Z=>?_)
 ·have a6:=mO Z;omega
 have a6:=nM Z;refine kM ?_;rw[G,W];exact rT
theorem a1Y A w es t (M:es.length≤1000000) I (N:nR I es w):jO aB 92 [ptr A 0,jZ t] I [(A,jM 50 [w])] (fun e _ H'=>e= .returned (.tuple #[i64 (lK es t:Int),.bool (nJ es t)])∧H'=[(A,jM 50 [w])]):=
 Pure.borrow (Enters.of func92 dE rfl) fun J G O=>a4Z A w es t M J (O (A,_) (.head _)) (N.mono G)
theorem jW.from{α:Type}{f:α→List Value}{sz:Nat}(A:∀x,(f x).length=sz){I l a c}(h:jW f I l (.slice a l.length c)){j:Nat}(G:j≤l.length):jW f I (l.drop j) (.slice (MK a c j sz) (l.length-j) (c-j)):=by
 have h1:=jW.cut A h G (aP _)
 rwa [aF (by rw[aJ];omega)]at h1
theorem XU a b e:((([]:List Value)++a.flatMap oH)++oH e)++b.flatMap oH=(a++[e]++b).flatMap oH:=sI
theorem b1M(a b:List nI):(([]:List Value)++a.flatMap oH)++b.flatMap oH=(a++b).flatMap oH:=sI
theorem nR.put{I G es e w v}(h:nR I es w)(M:xO I e.fs e.v)(A:Le I G)(N:jW oH G (xK es e) v):nR G (xK es e) v:=⟨N,fun x O=>by
 rcases a3k O with rfl|g
 ·exact M.mono A
 exact(h.2 x g).mono A⟩
theorem nR.drop{I A es t w v}(h:nR I es w)(G:Le I A)(M:jW oH A (uI es t) v):nR A (uI es t) v:=⟨M,fun x N=>(h.2 x (a1t N)).mono G⟩
theorem b5s Z w es e (hl:es.length≤1000000) I (G:nR I es w)(hr:xO I e.fs e.v):jO aB 99 [ptr Z 0,.agg (oH e).toArray] I [(Z,jM 50 [w])] (fun ev I' H'=>∃w',ev= .returned (.tuple #[])∧nR I' (xK es e) w'∧H'=[(Z,jM 50 [w'])]):=by
 have A:=G.1;obtain⟨p,c,rfl,_⟩:=G.len;obtain⟨_,_,a6,-,-⟩:=id hr.1;have a2:=LG es e.t;have ad:(es.take (lK es e.t)).length=lK es e.t:=by rw[aA];omega
 refine jU func99 fun w0 _=>?_;refine jL 3 ?_;intro _ _;refine jL 7 ?_;refine J.pull (Pull.s Pull.z) ?_;refine kL (a1Y Z _ es e.t hl _ G) ?_;intro _ _ _ O a7;have G:=G.mono O;have hr:=hr.mono O;have A:=A.mono O;obtain⟨h,rfl⟩:=a7;cases h;refine jL 20 ?_;refine cO (qV (k:=lK es e.t) rfl rfl rfl tZ vO rfl oM) ?_;refine dZ rfl (kK (by':=47) (n:=0) (g:=none) (xs:=[]) [_,_] rfl rfl rfl rfl rfl tZ (.inr ⟨_,tZ⟩) kR vO KA rfl rT rfl (eY pF (jW.take A a2) (GI G (fun x hx=>aX hx))) oM ?_);intro _ a8;refine jL 8 ?_;intro _ _;refine dZ rfl (kK (by':=47) [_,_,_] rfl rfl rfl rfl rfl tZ (.inr ⟨_,tZ⟩) kR vO KA rfl a8 rfl (Src.slice (jR.at 0 rfl) rfl rfl (a0K a6)) oM ?_);intro _ a3;refine mW ?_ ?_<;>intro Q
 ·have W:nJ es e.t=true:=Q;have a9:=RY W;have a0:lK es e.t+1≤es.length:=a9;have aa:(es.drop (lK es e.t+1)).length=es.length-(lK es e.t+1):=aJ;refine jL 14 ?_;refine cO (rQ (j:=(lK es e.t+1)) rfl rfl rfl tZ vO rfl oM oM) ?_;refine dZ rfl (kK (by':=47) [_,_,_] rfl rfl rfl rfl rfl tZ (.inr ⟨_,tZ⟩) kR vO KA rfl a3 rfl (eY pF (jW.from pF A (j:=lK es e.t+1) a0) (GI G (fun x hx=>aO hx))) oM ?_);intro ab a4;refine jL 4 ?_;refine dQ (dB (fQ (dB eX))) ?_;have M:es.take (lK es e.t)++[e]++es.drop (lK es e.t+1)=xK es e:=by unfold xK;rw[W];rfl
  have N:=(XU (es.take (lK es e.t)) (es.drop (lK es e.t+1)) e).trans (zC (eG oH) M);refine fU (H':=gH 59 ((xK es e).flatMap oH) ab++[(Z,_)]) (by rw[←N];exact bP) ?_;refine fD pF dE (by rw[←N];exact a4) (by rw[←M];simp only[aK,bM];omega) (fun I8 S a1=>?_);refine fV rfl rfl ?_;exact⟨_,rfl,G.put hr S a1,rfl⟩
 have W:nJ es e.t=false:=Q;have a0:=a2;have aa:(es.drop (lK es e.t)).length=es.length-lK es e.t:=aJ;refine jL 10 ?_;refine cO (rQ (j:=(lK es e.t)) rfl rfl rfl tZ vO rfl oM oM) ?_;refine dZ rfl (kK (by':=47) [_,_,_] rfl rfl rfl rfl rfl tZ (.inr ⟨_,tZ⟩) kR vO KA rfl a3 rfl (eY pF (jW.from pF A (j:=lK es e.t) a0) (GI G (fun x hx=>aO hx))) oM ?_);intro ac a5;refine jL 4 ?_;refine dQ (dB (fQ (dB eX))) ?_;have M:es.take (lK es e.t)++[e]++es.drop (lK es e.t)=xK es e:=by unfold xK;rw[W];rfl
 have N:=(XU (es.take (lK es e.t)) (es.drop (lK es e.t)) e).trans (zC (eG oH) M);refine fU (H':=gH 59 ((xK es e).flatMap oH) ac++[(Z,_)]) (by rw[←N];exact bP) ?_;refine fD pF dE (by rw[←N];exact a5) (by rw[←M];simp only[aK,bM];omega) (fun I8 S a1=>?_);refine fV rfl rfl ?_;exact⟨_,rfl,G.put hr S a1,rfl⟩
theorem b3m N w es t (hl:es.length≤1000000) I (A:nR I es w):jO aB 44 [ptr N 0,jZ t] I [(N,jM 50 [w])] (fun ev I' H'=>∃w',ev= .returned (.tuple #[])∧nR I' (uI es t) w'∧H'=[(N,jM 50 [w'])]):=by
 have G:=A.1;obtain⟨p,c,rfl,_⟩:=A.len;have a1:=LG es t;have a8:(es.take (lK es t)).length=lK es t:=by rw[aA];omega
 refine jU func44 fun w0 _=>?_;refine jL 3 ?_;intro _ _;refine jL 6 ?_;refine J.pull (Pull.s Pull.z) ?_;refine kL (a1Y N _ es t hl _ A) ?_;intro _ _ _ O a2;have A:=A.mono O;have G:=G.mono O;obtain⟨h,rfl⟩:=a2;cases h;refine mW ?_ ?_<;>intro Q
 ·have M:nJ es t=true:=Q;have a3:=RY M;have a4:lK es t+1≤es.length:=a3;have a9:(es.drop (lK es t+1)).length=es.length-(lK es t+1):=aJ;refine jL 13 ?_;refine cO (qV (k:=lK es t) rfl rfl rfl tZ vO rfl oM) ?_;refine dZ rfl (kK (by':=47) (n:=0) (g:=none) (xs:=[]) [_,_] rfl rfl rfl rfl rfl tZ (.inr ⟨_,tZ⟩) kR vO KA rfl rT rfl (eY pF (jW.take G a1) (GI A (fun x Z=>aX Z))) oM ?_);intro _ a5;refine jL 12 ?_;refine cO (rQ (j:=(lK es t+1)) rfl rfl rfl tZ vO rfl oM oM) ?_;refine dZ rfl (kK (by':=47) [_,_] rfl rfl rfl rfl rfl tZ (.inr ⟨_,tZ⟩) kR vO KA rfl a5 rfl (eY pF (jW.from pF G (j:=lK es t+1) a4) (GI A (fun x Z=>aO Z))) oM ?_);intro g9 a6;refine jL 4 ?_;refine dQ (fQ (dB eX)) ?_;have S:es.take (lK es t)++es.drop (lK es t+1)=uI es t:=by unfold uI;rw[M];rfl
  have W:=(b1M (es.take (lK es t)) (es.drop (lK es t+1))).trans (zC (eG oH) S);refine fU (H':=gH 59 ((uI es t).flatMap oH) g9++[(N,_)]) (by rw[←W];exact bP) ?_;refine fD pF dE (by rw[←W];exact a6) (by rw[←S];simp only[aK];omega) (fun _ a0 a7=>?_);refine fV rfl rfl ?_;exact⟨_,rfl,A.drop a0 a7,rfl⟩
 have M:nJ es t=false:=Q;refine jL 1 ?_;refine dQ (fQ (dB Keeps.n)) ?_;refine fV rfl rfl ?_;exact⟨_,rfl,(show uI es t=es from by unfold uI;rw[M];rfl).symm▸A,rfl⟩
theorem b0Y{α:Type}{f:α→List Value}{l:List α}{k x}(h:l[k]?=some x):(l.take (k+1)).flatMap f=(l.take k).flatMap f++f x:=by
 obtain⟨A,h⟩:=aH.1 h;rw[aT A,h,dV];simp
theorem ZI W w es (hl:es.length≤1000000) I (a5:I W=some (jM 50 [w]))(hE:nR I es w):jO aB 62 [ptr W 0] I [] (fun e I' H'=>∃v,e= .returned v∧jW recC I' (es.map (·.t)) v∧H'=[]):=by
 obtain⟨p,c,rfl,_,hp⟩:=id hE.1;refine jU func62 fun w0 _=>?_;refine jL 17 ?_;refine eU (ι:=Nat×Gs) (fun y=>y.1≤es.length∧kZ w0.heap.size 2 (es.take y.1).length ((es.take y.1).flatMap fun x=>recC x.t) y.2) (fun y=>es.length-y.1) (fun y=>[(0,ptr W 0),(3,gV (es.take y.1).length y.2),(4,i64 (y.1:Int))]) (fun y=>_) (fun y=>gH 54 ((es.take y.1).flatMap fun x=>recC x.t) y.2) (0,none) ⟨bG _,rfl,rfl⟩ rT rfl rfl ?_;rintro⟨y,g⟩ ⟨hy,G⟩;dsimp only at hy G ⊢;have a6:(es.take y).length=y:=by rw[aA];omega
 refine jS ?_ ?_<;>intro a0 Z
 ·have N:y<es.length:=oM;obtain⟨x,A⟩:∃x,es[y]?=some x:=⟨_,kW N⟩;obtain⟨_,eo,_,_,_,_,rfl,a1,a2⟩:=hp (jT N);have O:=b0Y (f:=fun x:nI=>recC x.t) A;have Q:(es.take (y+1)).length=(es.take y).length+1:=by rw[aA,aA];omega
  refine kJ (eo+y*5) ?_;refine jL 1 ?_;refine cO (q2 oC lG (jR.EH a1) (LM a2 A)) ?_;refine jL 1 ?_;intro _ _;refine yQ 15 [_] G ?_;intro g3 a3;refine jL 9 ?_;refine dQ (dB eX) ?_;refine bK (y+1,g3) ⟨dO,by dsimp only;rw[Q,O];exact a3⟩ dO ⟨rfl,by dsimp only;rw[Q];rfl,rfl,trivial⟩ rfl (by dsimp only;rw[O];rfl)
 refine jL 12 ?_;have M:es.take y=es:=aF oM;rw[M]at G ⊢;have S:(es.map (·.t)).flatMap recC=es.flatMap fun x=>recC x.t:=List.flatMap_map _ recC _;refine fU (H':=gH 54 ((es.map (·.t)).flatMap recC) g++[]) (.of_eq (by rw[S,fJ])) ?_;refine fD kF dE (by rw[S];exact G) (by rw[aU]) (fun _ _ a4=>?_);refine jV ?_;exact⟨_,rfl,a4,rfl⟩
end Go.Proofs.YtekmeaoblpfnpaaGreatDoor
end
section
namespace Go.Proofs.YtekmeaoblpfnpaaGreatDoor
open _root_.Go.Proofs.Tryz
open Go Go.Sx
def rn (s:List UInt8):List UInt8:=(s.takeWhile aY).filter bZ
theorem a7H{c}(h:c.toNat=88∨c.toNat=120):aG c=88:=by
 rcases h with h|h
 ·rw[show c=88 from fK.1 (by rw[h];rfl)];rfl
 rw[show c=120 from fK.1 (by rw[h];rfl)];rfl
theorem a6z{c}(h:aN c=true):aG c=c:=(Ke.digit_ok h).2.2
theorem a9g{c}(h:aN c=true):bF c=c.toNat-48:=by
 have:=eH.1 h;unfold bF;rw[zD fun e=>by rw[e]at this;exact absurd this.2 dE]
theorem b6I{c}(h:(48≤c.toNat∧c.toNat≤57)∨c.toNat=88∨c.toNat=120):aY c=true∧bZ c=true:=by
 revert h;exact dM (p:=fun c=>(48≤c.toNat∧c.toNat≤57)∨c.toNat=88∨c.toNat=120→aY c=true∧bZ c=true) (by decide +kernel) c
theorem b3L{c}(h:c.toNat=32∨c.toNat=45):aY c=true∧bZ c=false:=by
 revert h;exact dM (p:=fun c=>c.toNat=32∨c.toNat=45→aY c=true∧bZ c=false) (by decide +kernel) c
theorem b5V{c}(h:¬((48≤c.toNat∧c.toNat≤57)∨c.toNat=88∨c.toNat=120∨c.toNat=32∨c.toNat=45)):aY c=false:=by
 revert h;exact dM (p:=fun c=>¬((48≤c.toNat∧c.toNat≤57)∨c.toNat=88∨c.toNat=120∨c.toNat=32∨c.toNat=45)→aY c=false) (by decide +kernel) c
theorem b1Q s:∀c∈rn s,aN c=true∨c.toNat=88∨c.toNat=120:=fun c A=>by
 obtain⟨h1,h2⟩:=bU.1 A;have h3:aY c=true:=List.all_eq_true.1 (List.all_takeWhile (p:=aY)) c h1;revert h2 h3;exact dM (p:=fun d=>bZ d=true→aY d=true→aN d=true∨d.toNat=88∨d.toNat=120) (by decide +kernel) c
theorem b5N s:(rn s).length≤s.length:=nP (dN _ _) (List.takeWhile_prefix _).length_le
theorem WE{s:List UInt8}{k c}(h:s[k]?=some c):(s.take (k+1)).filter bZ=(s.take k).filter bZ++(if bZ c then[c]else[]):=by
 obtain⟨A,G⟩:=aH.1 h;rw[aT A,G,dY];cases hn:bZ c<;>simp[hn]
theorem RN{t}(h:∀c∈t,aN c=true∨c.toNat=88∨c.toNat=120):bQ (t.map aG)=bQ t:=by
 induction t with
 |nil=>rfl
 |cons c r G=>
  rw[dS,fZ,fZ,G fun d A=>h d (.tail _ A)];rcases h c (.head _)with e|e
  ·rw[a6z e]
  rw[a7H e];have:aN c=false:=by
   rcases A:aN c with _|_
   ·rfl
   have:=eH.1 A;omega
  rw[this];rfl
theorem yZ{t}(h:bQ t=true):t.map aG=t:=Ke.a7q h
theorem PI{s:List UInt8}{j c}(G:j<9)(A:s[j]?=some c)(M:c.toNat=88∨c.toNat=120):bH (s.map aG)=false:=by
 have h1:((s.map aG).take 9)[j]?=some (aG c):=by rw[eP,zF G,fB,A];rfl
 have h2:bQ ((s.map aG).take 9)=false:=by
  refine a0G h1 ?_;rw[a7H M];decide
 unfold bH;rw[h2,Bool.and_false]
theorem a1o s (a0:12≤s.length)(hs:s.length≤1000000000)(hd:bQ (s.take 12)=true) I:Pure aB 120 [str s] I (u8 (Ke.check s)):=by
 refine jU func120 fun w0 _=>?_;refine jL 17 ?_;refine eU (ι:=Nat) (fun j=>j≤12) (fun j=>12-j) (fun j=>[(0,str s),(3,i64 ((fA 0 ((s.take 12).take j):Nat):Int)),(4,i64 (j:Int))]) (fun j=>I) (fun j=>[]) 0 (bG _) rT rfl rfl ?_;intro j _;have S:=a0F ((s.take 12).take j) 0;rw[aA,aA]at S;refine jS ?_ ?_<;>intro W O
 ·have Z:j<s.length:=oM;obtain⟨c,A⟩:∃c,s[j]?=some c:=⟨_,kW Z⟩;have G:(s.take 12)[j]?=some c:=by rw[eP,zF oM];exact A
  have hc:=a2f hd G;refine jL 8 ?_;refine cO (lH rfl rfl rfl lM oM A) ?_;refine cO (FZ rfl rfl rfl (w8 oM)) ?_;refine jL 1 ?_;refine aW 14 (i64 ((c.toNat-48:Nat):Int)) rfl (zC i64 ((qW oM).trans oM)) ?_;refine jL 8 ?_;refine aW 16 (i64 ((j % 2:Nat):Int)) rfl rfl ?_;refine jS ?_ ?_<;>intro M Q
  ·have h2:j % 2=1:=by have h:=lU M;omega
   refine jL 19 ?_;refine bK (j+1) oM oM ⟨rfl,by rw[SE G,h2];exact zC (fun z=>some (dF .i64 z)) oM,rfl,trivial⟩ rfl rfl
  have h2:j % 2=0:=by have h:=lY M;omega
  refine jL 15 ?_;refine bK (j+1) oM oM ⟨rfl,by rw[SE G,h2];exact zC (fun z=>some (dF .i64 z)) oM,rfl,trivial⟩ rfl rfl
 have N:(s.take 12).take j=s.take 12:=aF (by rw[aA];omega);refine jL 9 ?_;refine aW 24 (i64 ((fA 0 (s.take 12) % 10:Nat):Int)) rfl (by rw[N];rfl) ?_;refine jL 1 ?_;refine aW 25 (i64 ((10-fA 0 (s.take 12) % 10:Nat):Int)) rfl (zC i64 oM) ?_;refine jL 1 ?_;refine aW 26 (i64 (((10-fA 0 (s.take 12) % 10) % 10:Nat):Int)) rfl rfl ?_;refine jL 1 ?_;refine aW 27 (i64 ((48+(10-fA 0 (s.take 12) % 10) % 10:Nat):Int)) rfl (zC i64 oM) ?_;refine jL 1 ?_;refine aW 28 (u8 (Ke.check s)) rfl (zC (dF .u8) (IQ oM)) ?_;refine jV ?_;exact rT
theorem b1o(a b:Nat):((a:Int) == (b:Int))=(a == b):=by
 rw[Bool.eq_iff_iff,beq_iff_eq,beq_iff_eq];omega
theorem b1L{s:List UInt8}{j c}(N:j≤10)(A:(s.take (min j 9)).all aN=true)(G:s[j]?=some c)(M:aN c=true):(s.take (min (j+1) 9)).all aN=true:=by
 rcases Nat.lt_or_ge j 9 with h|h
 ·rw[dK oM]at A ⊢;exact a9n A G M
 rw[aS oM]at A ⊢;exact A
theorem b6s s (a8:s.length=10)(hx:∀c∈s,aN c=true∨c.toNat=88∨c.toNat=120) I:Pure aB 119 [str s] I (.bool (bH (s.map aG))):=by
 refine jU func119 fun w0 _=>?_;refine jL 17 ?_;refine eU (ι:=Nat) (fun j=>j≤10∧(s.take (min j 9)).all aN=true) (fun j=>10-j) (fun j=>[(0,str s),(3,i64 ((Ke.FX 0 ((s.map aG).take j):Nat):Int)),(4,i64 (j:Int))]) (fun j=>I) (fun j=>[]) 0 ⟨bG _,rfl⟩ rT rfl rfl ?_;rintro j ⟨hj,A⟩;have a9:=a0Y ((s.map aG).take j) 0;rw[aA,aU,a8]at a9;refine jS ?_ ?_<;>intro aa a4
 ·have ab:j<s.length:=oM;obtain⟨c,G⟩:∃c,s[j]?=some c:=⟨_,kW ab⟩;have M:(s.map aG)[j]?=some (aG c):=by rw[fB,G];rfl
  have a2:=hx c (lX G);have ae:=c.toNat_lt;have af:48≤c.toNat:=a2.elim (fun h=>(eH.1 h).1) (fun h=>oM);have hm:(10-j)*bF (aG c)≤10*255:=Nat.mul_le_mul oM (a4X _);refine jL 8 ?_;refine cO (lH rfl rfl rfl lM oM G) ?_;refine jL 1 ?_;refine aW 13 (i64 (c.toNat:Int)) rfl (zC i64 (qW oM)) ?_;refine jL 1 ?_;refine aW 14 (i64 ((c.toNat-48:Nat):Int)) rfl (zC i64 oM) ?_;refine jL 8 ?_;refine cO (lH rfl rfl rfl lM oM G) ?_;refine oW ?_ ?_<;>intro N
  ·have ac:=lU N;refine jL 9 ?_;have O:c.toNat=88∨c.toNat=120:=oM;have a3:bF (aG c)=10:=by rw[a7H O];rfl
   refine jS ?_ ?_<;>intro Q a5
   ·have S:=mO Q;refine jV ?_;rw[PI oM G O];exact rT
   have S:=nM Q;refine jL 6 ?_;refine aW 29 (i64 ((10-j:Nat):Int)) rfl (zC i64 oM) ?_;refine jL 1 ?_;refine aW 30 (i64 ((bF (aG c):Nat):Int)) rfl (zC i64 oM) ?_;refine cO (DX rfl rfl rfl (qW (by rw[←aV];omega))) ?_;refine aW 31 (i64 (((10-j)*bF (aG c):Nat):Int)) rfl (zC i64 (aV _ _).symm) ?_;refine jL 10 ?_;refine bK (j+1) ⟨oM,by rw[aS oM]at A ⊢;exact A⟩ oM ⟨rfl,by rw[CX M];exact zC (fun z=>some (dF .i64 z)) oM,rfl,trivial⟩ rfl rfl
  have ac:=lY N;refine jL 2 ?_;refine J.zg (lH rfl rfl rfl lM oM G) ?_;refine jS ?_ ?_<;>intro W a6
  ·have ad:=lU W;refine jL 1 ?_;have O:c.toNat=88∨c.toNat=120:=oM;have a3:bF (aG c)=10:=by rw[a7H O];rfl
   refine jS ?_ ?_<;>intro Z a7
   ·have S:=mO Z;refine jV ?_;rw[PI oM G O];exact rT
   have S:=nM Z;refine jL 6 ?_;refine aW 29 (i64 ((10-j:Nat):Int)) rfl (zC i64 oM) ?_;refine jL 1 ?_;refine aW 30 (i64 ((bF (aG c):Nat):Int)) rfl (zC i64 oM) ?_;refine cO (DX rfl rfl rfl (qW (by rw[←aV];omega))) ?_;refine aW 31 (i64 (((10-j)*bF (aG c):Nat):Int)) rfl (zC i64 (aV _ _).symm) ?_;refine jL 10 ?_;refine bK (j+1) ⟨oM,by rw[aS oM]at A ⊢;exact A⟩ oM ⟨rfl,by rw[CX M];exact zC (fun z=>some (dF .i64 z)) oM,rfl,trivial⟩ rfl rfl
  have ad:=lY W;have a0:aN c=true:=a2.resolve_right oM;have a3:bF (aG c)=c.toNat-48:=by rw[a6z a0];exact a9g a0
  refine jL 6 ?_;refine aW 29 (i64 ((10-j:Nat):Int)) rfl (zC i64 oM) ?_;refine jL 1 ?_;refine aW 30 (i64 ((bF (aG c):Nat):Int)) rfl (zC i64 oM) ?_;refine cO (DX rfl rfl rfl (qW (by rw[←aV];omega))) ?_;refine aW 31 (i64 (((10-j)*bF (aG c):Nat):Int)) rfl (zC i64 (aV _ _).symm) ?_;refine jL 10 ?_;refine bK (j+1) ⟨oM,by exact b1L hj A G a0⟩ oM ⟨rfl,by rw[CX M];exact zC (fun z=>some (dF .i64 z)) oM,rfl,trivial⟩ rfl rfl
 have a1:(s.map aG).take j=s.map aG:=aF (by rw[aU];omega);refine jL 9 ?_;refine aW 34 (i64 ((Ke.FX 0 (s.map aG) % 11:Nat):Int)) rfl (by rw[a1];rfl) ?_;refine jV ?_;have hr:bH (s.map aG)=(Ke.FX 0 (s.map aG) % 11 == 0):=by
  unfold bH;rw[←gG,yZ (show bQ (s.take 9)=true by rw[aS oM]at A;exact A),show bQ (s.take 9)=true by rw[aS oM]at A;exact A,Bool.and_true]
 rw[hr];exact⟨zC (fun b=>Ending.returned (.bool b)) (b1o _ _),rfl,rfl⟩
theorem b5i{s j}(G:¬j<s.length)(A:(s.take j).all aY=true):(s.take j).filter bZ=rn s:=by
 rw[aF oM]at A ⊢;unfold rn;rw[KP A]
theorem b6u{s j c}(A:(s.take j).all aY=true)(G:s[j]?=some c)(M:aY c=false):(s.take j).filter bZ=rn s:=by
 unfold rn;rw[YV A G M]
theorem a3Y s (hs : s.length ≤ 100000000) I : Pure Tryz.prog 67 [str s] I (.tuple #[str (Ke.ED s).1, .bool (Ke.ED s).2]) := by
 refine jO.toPure ?_
 have hnl := b5N s
 have hnc := b1Q s
 have hiN : Ke.ED s = Ke.a2I ((rn s).map Ke.up) := rfl
 have hml : ((rn s).map Ke.up).length = (rn s).length := List.length_map _
 refine jU func67 fun w0 hw0 => ?_
 refine jL 11 ?_
 refine Cj.join (ι := Unit) (fun _y => True) (fun _y => [(4, str (rn s))]) (fun _y => I) (fun _y => []) ?_ (fun hcut => ?_)
 ·rintro _ -
  refine Cj.join (ι := Unit) (fun _y => ¬ (((rn s).map Ke.up).length = 10 ∧ Ke.OT ((rn s).map Ke.up) = true)) (fun _y => [(4, str (rn s))]) (fun _y => I) (fun _y => []) ?_ (fun hcut => ?_)
  ·rintro _ hno
   refine kC (ZJ (rn s) (by omega) _) ?_
   refine jL 3 ?_
   refine Cj.join (ι := Unit) (fun _y => ¬ (((rn s).map Ke.up).length = 13 ∧ Ke.digits ((rn s).map Ke.up) = true ∧ Ke.check ((rn s).map Ke.up) = ((rn s).map Ke.up).getD 12 0)) (fun _y => [(4, str (rn s))]) (fun _y => I) (fun _y => []) ?_ (fun hcut => ?_)
   ·rintro _ hno2
    refine jV ?_
    have he : Ke.ED s = ([], false) := by rw [hiN]; unfold Ke.a2I; rw [if_neg hno, if_neg hno2]
    rw [he]
    exact ⟨rfl, rfl⟩
   refine jL 1 ?_
   refine Cj.qC [] [] 13 (by kernel_rfl) ?_
   refine jL 4 ?_
   refine JA.split 63 rfl (fun hg2 => ?_) (fun hg2 => ?_)
   rotate_left
   ·have hno2 : ¬ (((rn s).map Ke.up).length = 13 ∧ Ke.digits ((rn s).map Ke.up) = true ∧ Ke.check ((rn s).map Ke.up) = ((rn s).map Ke.up).getD 12 0) := fun e => lY hg2 (by rw [← hml, e.1]; rfl)
    refine jL 13 ?_
    exact hcut () _ _ _ hno2 ⟨rfl, trivial⟩ rfl rfl
   have h13 : (rn s).length = 13 := by have h := lU hg2; omega
   refine jL 3 ?_
   refine JA.split 66 rfl (fun hg3 => ?_) (fun hg3 => ?_)
   rotate_left
   ·have hno2 : ¬ (((rn s).map Ke.up).length = 13 ∧ Ke.digits ((rn s).map Ke.up) = true ∧ Ke.check ((rn s).map Ke.up) = ((rn s).map Ke.up).getD 12 0) := fun e => Bool.noConfusion (((RN hnc).symm.trans e.2.1).symm.trans hg3)
    refine jL 10 ?_
    exact hcut () _ _ _ hno2 ⟨rfl, trivial⟩ rfl rfl
   have hdg : Ke.digits (rn s) = true := hg3
   have hd13 : Ke.digits ((rn s).take 12) = true := List.all_eq_true.2 fun c hc => List.all_eq_true.1 hdg c (List.mem_of_mem_take hc)
   obtain ⟨d, hg12⟩ : ∃ c, (rn s)[12]? = some c := ⟨_, kW (by omega)⟩
   have hgd : ((rn s).map Ke.up).getD 12 0 = d := by rw [yZ hdg, List.getD, hg12]; rfl
   refine jL 2 ?_
   refine JA.fix lI (fun fx1 => ?_)
   refine JA.tkG 10 6 66 true _ rfl fx1 rfl rfl hg3 (lH rfl rfl rfl lM (by omega) hg12) ?_
   refine kC (a1o (rn s) (by omega) (by omega) hd13 _) ?_
   refine jS (fun hc5 hc5p => ?_) (fun hc5 hc5p => ?_)
   ·have hck : Ke.check ((rn s).map Ke.up) = ((rn s).map Ke.up).getD 12 0 := by have h := lU hc5; rw [hgd, yZ hdg]; exact UInt8.toNat_inj.1 (by omega)
    refine jV ?_
    have he : Ke.ED s = (rn s, true) := by rw [hiN]; unfold Ke.a2I; rw [if_neg hno, if_pos ⟨hml.trans h13, (RN hnc).trans hdg, hck⟩, yZ hdg]
    rw [he]
    exact ⟨rfl, rfl⟩
   ·have hno2 : ¬ (((rn s).map Ke.up).length = 13 ∧ Ke.digits ((rn s).map Ke.up) = true ∧ Ke.check ((rn s).map Ke.up) = ((rn s).map Ke.up).getD 12 0) := fun e => lY hc5 (by have h := e.2.2; rw [hgd, yZ hdg] at h; rw [h])
    refine jL 1 ?_
    exact hcut () _ _ _ hno2 ⟨rfl, trivial⟩ rfl rfl
  refine jS (fun hc8 hc8p => ?_) (fun hc8 hc8p => ?_)
  ·have h10 : (rn s).length = 10 := by have h := lU hc8; omega
   refine kC (b6s (rn s) h10 hnc _) ?_
   refine mW (fun hc9 => ?_) (fun hc9 => ?_)
   ·have hrs : Ke.OT ((rn s).map Ke.up) = true := hc9
    have hd9 : Ke.digits ((rn s).take 9) = true := by rw [← RN (fun c hc => hnc c (List.mem_of_mem_take hc)), List.map_take]; exact (Bool.and_eq_true_iff.1 hrs).2
    have htk9 : ((rn s).map Ke.up).take 9 = (rn s).take 9 := by rw [← List.map_take, yZ hd9]
    have hd12 := a1f (b := []) hd9 (by rw [List.length_take]; omega)
    rw [List.append_nil] at hd12
    refine jL 3 ?_
    refine J.z (lN (p := 0) (q := 9) rfl rfl lM rfl ⟨_, rfl⟩ (by omega) (by omega)) ?_
    refine J.ev 50 (str ((rn s).take 9)) rfl (by rw [List.drop_zero]) ?_
    refine J.z (oZ rfl rfl rfl (by first | omega | (simp only [List.length_append]; omega) | (simp; omega))) ?_
    refine kC (a1o _ (by simp; omega) (by simp; omega) hd12 _) ?_
    refine jL 1 ?_
    intro b10 hb10
    refine J.z (uJ [Ke.check ([57, 55, 56] ++ (rn s).take 9)] rfl rfl rfl rP lM LV (jR.at 0 rfl) rfl) ?_
    refine J.z (oZ rfl rfl rfl (by first | omega | (simp only [List.length_append]; omega) | (simp; omega))) ?_
    refine kM ?_
    have he : Ke.ED s = ([57, 55, 56] ++ (rn s).take 9 ++ [Ke.check ([57, 55, 56] ++ (rn s).take 9)], true) := by rw [hiN]; unfold Ke.a2I; rw [if_pos ⟨hml.trans h10, hrs⟩, htk9]
    rw [he]
    exact ⟨rfl, rfl⟩
   have hno : ¬ (((rn s).map Ke.up).length = 10 ∧ Ke.OT ((rn s).map Ke.up) = true) := fun e => Bool.noConfusion (e.2.symm.trans hc9)
   refine jL 1 ?_
   exact hcut () _ _ _ hno ⟨rfl, trivial⟩ rfl rfl
  have hno : ¬ (((rn s).map Ke.up).length = 10 ∧ Ke.OT ((rn s).map Ke.up) = true) := fun e => lY hc8 (by rw [← hml, e.1]; rfl)
  refine jL 1 ?_
  exact hcut () _ _ _ hno ⟨rfl, trivial⟩ rfl rfl
 refine jL 6 ?_
 refine Cj.loop (ι := Nat) (fun j => j ≤ s.length ∧ (s.take j).all Ke.okb = true) (fun j => s.length - j) (fun j => [(0, str s), (4, str ((s.take j).filter Ke.nb)), (5, i64 (j : Int))]) (fun j => _) (fun j => []) 0 ⟨Nat.zero_le _, rfl⟩ ⟨rfl, rfl, rfl, trivial⟩ rfl rfl ?_
 rintro j ⟨hj, hall⟩
 have hfl := List.length_filter_le Ke.nb (s.take j)
 rw [List.length_take, Nat.min_eq_left hj] at hfl
 refine jS (fun hc11 hc11p => ?_) (fun hc11 hc11p => ?_)
 ·have hlt : j < s.length := by omega
  obtain ⟨c, hget⟩ : ∃ c, s[j]? = some c := ⟨_, kW hlt⟩
  refine jL 8 ?_
  refine J.z (lH rfl rfl rfl lM (by omega) hget) ?_
  refine jL 3 ?_
  refine Cj.join (ι := Bool) (fun y => (y = true → ((48 ≤ (c.toNat : Int) ∧ (c.toNat : Int) ≤ 57) ∨ (c.toNat : Int) = 88 ∨ (c.toNat : Int) = 120)) ∧ (y = false → ¬ ((48 ≤ (c.toNat : Int) ∧ (c.toNat : Int) ≤ 57) ∨ (c.toNat : Int) = 88 ∨ (c.toNat : Int) = 120))) (fun y => [(0, str s), (4, str ((s.take j).filter Ke.nb)), (5, i64 (j : Int)), (6, u8 c), (31, .bool y)]) (fun y => I) (fun y => []) ?_ (fun hcut => ?_)
  ·rintro y ⟨hy1, hy2⟩
   refine mW (fun hc12 => ?_) (fun hc12 => ?_)
   ·have hcc := hy1 hc12
    have hk := b6I (c := c) (by omega)
    refine jL 4 ?_
    intro b13 hb13
    refine J.z (uJ [c] rfl rfl rfl rP lM LV (jR.at 0 rfl) rfl) ?_
    refine J.z (oZ rfl rfl rfl (by first | omega | (simp only [List.length_append]; omega) | (simp; omega))) ?_
    refine jL 4 ?_
    have hnx := WE hget
    rw [hk.2, if_pos rfl] at hnx
    refine jL 5 ?_
    refine Ej.keep (Keeps.d Keeps.n) ?_
    refine Ej.round (j + 1) ⟨by omega, NS hall hget hk.1⟩ (by omega) ⟨rfl, by rw [hnx]; rfl, rfl, trivial⟩ rfl rfl
   have hcc := hy2 hc12
   refine oW (fun hg14 => ?_) (fun hg14 => ?_)
   ·have h39 := bne_iff_ne.1 hg14
    refine jS (fun hc15 hc15p => ?_) (fun hc15 hc15p => ?_)
    ·have h42 := bne_iff_ne.1 hc15
     have hout := b6u hall hget (b5V (by omega))
     rw [hout]
     refine jL 1 ?_
     refine Ej.a3n rfl ?_
     refine jL 3 ?_
     exact hcut () _ _ _ trivial ⟨rfl, trivial⟩ rfl rfl
    have h42 : (c.toNat : Int) = 45 := by have h := hc15; rw [bne_eq_false_iff_eq] at h; exact h
    refine jL 3 ?_
    have hk := b3L (c := c) (by omega)
    have hnx := WE hget
    rw [hk.2, if_neg (by decide), List.append_nil] at hnx
    refine jL 5 ?_
    refine Ej.round (j + 1) ⟨by omega, NS hall hget hk.1⟩ (by omega) ⟨rfl, by rw [hnx]; rfl, rfl, trivial⟩ rfl rfl
   have h39 : (c.toNat : Int) = 32 := by have h := hg14; rw [bne_eq_false_iff_eq] at h; exact h
   refine jL 9 ?_
   have hk := b3L (c := c) (by omega)
   have hnx := WE hget
   rw [hk.2, if_neg (by decide), List.append_nil] at hnx
   refine jL 5 ?_
   refine Ej.round (j + 1) ⟨by omega, NS hall hget hk.1⟩ (by omega) ⟨rfl, by rw [hnx]; rfl, rfl, trivial⟩ rfl rfl
  refine oW (fun hg17 => ?_) (fun hg17 => ?_)
  ·have h20 := mO hg17
   refine oW (fun hg18 => ?_) (fun hg18 => ?_)
   ·have h24 := mO hg18
    refine jL 8 ?_
    exact hcut _ _ _ _ ⟨fun h => by first | omega | (simp at h; omega) | (cases h; done), fun h => by first | omega | (simp at h; omega) | (cases h; done)⟩ ⟨rfl, rfl, rfl, rfl, rfl, trivial⟩ rfl rfl
   have h24 := nM hg18
   refine oW (fun hg19 => ?_) (fun hg19 => ?_)
   ·have h28 := lU hg19
    refine jL 4 ?_
    exact hcut _ _ _ _ ⟨fun h => by first | omega | (simp at h; omega) | (cases h; done), fun h => by first | omega | (simp at h; omega) | (cases h; done)⟩ ⟨rfl, rfl, rfl, rfl, rfl, trivial⟩ rfl rfl
   have h28 := lY hg19
   refine jL 4 ?_
   exact hcut _ _ _ _ ⟨fun h => by first | omega | (simp at h; omega) | (cases h; done), fun h => by first | omega | (simp at h; omega) | (cases h; done)⟩ ⟨rfl, rfl, rfl, rfl, rfl, trivial⟩ rfl rfl
  have h20 := nM hg17
  refine oW (fun hg20 => ?_) (fun hg20 => ?_)
  ·have h28 := lU hg20
   refine jL 4 ?_
   exact hcut _ _ _ _ ⟨fun h => by first | omega | (simp at h; omega) | (cases h; done), fun h => by first | omega | (simp at h; omega) | (cases h; done)⟩ ⟨rfl, rfl, rfl, rfl, rfl, trivial⟩ rfl rfl
  have h28 := lY hg20
  refine jL 4 ?_
  exact hcut _ _ _ _ ⟨fun h => by first | omega | (simp at h; omega) | (cases h; done), fun h => by first | omega | (simp at h; omega) | (cases h; done)⟩ ⟨rfl, rfl, rfl, rfl, rfl, trivial⟩ rfl rfl
 have hout := b5i (s := s) (j := j) (by omega) hall
 rw [hout]
 refine jL 4 ?_
 exact hcut () _ _ _ trivial ⟨rfl, trivial⟩ rfl rfl
end Go.Proofs.YtekmeaoblpfnpaaGreatDoor
end
namespace Ke
open Go.Lib (decodeL decodeN)
def opens (t:Bs):Prop:=t=[]∨∃b r,t=b::r∧b.toNat / 64≠2
theorem zN{b r}(h:b.toNat / 64≠2):opens (b::r):= .inr ⟨b,r,rfl,h⟩
theorem a1R:opens []:= .inl rfl
theorem a1M{s t}(h:opens s)(A:s≠[]):opens (s++t):=by
 rcases h with h|⟨b,r,rfl,h⟩
 ·exact absurd h A
 exact .inr ⟨b,r++t,rfl,h⟩
theorem a7B{s t}(h:opens s)(A:opens t):opens (s++t):=by grind [a1M]
theorem VK l t (hl : l ≠ []) (ht : opens t) : decodeL (l ++ t) = decodeL l := by
  rw [Go.Lib.decodeL_N, Go.Lib.decodeL_N]
  rcases ht with rfl | ⟨b, r, rfl, hb⟩
  · rw [List.append_nil]
  rcases l with _ | ⟨a0, _ | ⟨a1, _ | ⟨a2, _ | ⟨a3, l⟩⟩⟩⟩
  · exact absurd rfl hl
  all_goals
    simp only [List.cons_append, List.nil_append, List.length_cons, List.length_nil, List.length_append, List.getD_cons_zero, List.getD_cons_succ, List.getD_nil]
    unfold decodeN
    first
      | (have e1 : (0 + 1 < 0 + 1) = False := by simp
         simp [hb, Nat.lt_irrefl])
      | (simp [hb, Nat.lt_irrefl]; done)
      | skip
theorem UY:∀(n:Nat) (s t:Bs),s.length≤n→opens t→runes (s++t)=runes s++runes t
 |_,[],t,_,_=>by simp[a9O]
 |0,a::r,t,h,_=>by simp at h
 |n+1,a::r,t,h,ht=>by
  have A:a::r≠[]:=sI;have M:=Go.Lib.decodeL_width (a::r);have G:=Go.Lib.decodeL_le (a::r) A;rw[zU (s:=(a::r)++t) sI,zU A,VK _ _ A ht,List.drop_append_of_le_length G,UY n _ t (by simp only[aJ];simp only[aQ]at h;simp only[aQ];omega) ht];rfl
theorem a1G s t (h:opens t):runes (s++t)=runes s++runes t:=UY _ s t (aP _) h
theorem a5K{c} r (h:c.toNat<128):runes (c::r)=c.toNat::runes r:=by
 rw[zU sI,Go.Lib.decodeL_ascii c r h];rfl
theorem toByte{n}(h:n<256):(aZ n).toNat=n:=by simp;omega
theorem enc1{c}(h:c<128):enc c=[aZ c]:=by
 unfold enc;rw[zF h]
theorem enc2{c}(h1:128≤c)(h:c<2048):enc c=[aZ (192+c / 64),aZ (128+c % 64)]:=by
 unfold enc;rw[zD oM,zF h]
theorem enc3{c}(h1:2048≤c)(h:wK c):enc c=[aZ (224+c / 4096),aZ (128+c / 64 % 64),aZ (128+c % 64)]:=by grind [wK,enc]
theorem JL{c}(h:wK c):opens (enc c)∧enc c≠[]:=by
 by_cases h1:c<128
 ·rw[enc1 h1];exact⟨zN (by rw[toByte oM];omega),sI⟩
 by_cases h2:c<2048
 ·rw[enc2 oM h2];exact⟨zN (by rw[toByte oM];omega),sI⟩
 rw[enc3 oM h];unfold wK at h;exact⟨zN (by rw[toByte oM];omega),sI⟩
theorem VN{c}(h:wK c):decodeL (enc c)=(c,(enc c).length):=by
 rw[Go.Lib.decodeL_N]
 by_cases h1:c<128
 ·rw[enc1 h1];simp only[aQ,dL,cZ,dA,dU];rw[toByte oM];unfold decodeN;rw[zF h1]
 by_cases h2:c<2048
 ·rw[enc2 oM h2];simp only[aQ,dL,cZ,dA,dU];rw[toByte oM,toByte oM];unfold decodeN;rw[zD oM,zF ⟨oM,oM,oM⟩,zF oM];refine fC ?_ rfl;show _=c;simp only;omega
 rw[enc3 oM h];unfold wK at h;simp only[aQ,dL,cZ,dA,dU];rw[toByte oM,toByte oM,toByte oM];unfold decodeN;rw[zD oM,zD oM,zF ⟨oM,⟨oM,oM⟩,oM,oM⟩,zF ⟨oM,oM⟩];refine fC ?_ rfl;show _=c;simp only;omega
theorem a1H{c}(h:wK c):runes (enc c)=[c]:=by
 rw[zU (JL h).2,VN h,List.drop_eq_nil_of_le (aP _)];rfl
def encs (l:List Nat):Bs:=l.flatMap enc
theorem YX:∀(l:List Nat),(∀c∈l,wK c)→opens (encs l)
 |[],_=>a1R
 |c::_r,h=>a1M (JL (h c (.head _))).1 (JL (h c (.head _))).2
theorem YE:∀(l:List Nat),(∀c∈l,wK c)→runes (encs l)=l
 |[],_=>rfl
 |c::r,h=>by
  show runes (enc c++encs r)=_;rw[a1G _ _ (YX r fun d A=>h d (.tail _ A)),a1H (h c (.head _)),YE r fun d A=>h d (.tail _ A)];rfl
end Ke
namespace Ke
