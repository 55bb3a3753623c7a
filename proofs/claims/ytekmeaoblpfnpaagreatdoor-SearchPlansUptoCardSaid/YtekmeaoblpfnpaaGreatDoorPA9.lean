/-
  Own texts on the laws of the seat, joined: the logic, and contracts of functions. Conditions: none.
-/
import Derived.Test.YtekmeaoblpfnpaaGreatDoorNmA
import Derived.Test.YtekmeaoblpfnpaaGreatDoorPA8
set_option linter.all false
set_option maxRecDepth 100000
set_option maxHeartbeats 40000000
open List renaming length_take -> aA,take_of_length_le -> aF,getElem?_eq_some_iff -> aH,mem_map -> aI,length_drop -> aJ,length_append -> aK,mem_of_mem_drop -> aO,length_cons -> aQ,take_succ_eq_append_getElem -> aT,length_map -> aU,mem_of_mem_take -> aX,mem_map_of_mem -> bC,map_map -> bD,pairwise_iff_forall_sublist -> bI,length_singleton -> bM,perm_append_comm -> bP,mem_filter -> bU,mem_append -> bY,getD_cons_zero -> cZ,getD_cons_succ -> dA,nodup_iff_pairwise_ne -> dG,pairwise_map -> dH,length_nil -> dL,length_filter_le -> dN,map_cons -> dS,getD_nil -> dU,flatMap_append -> dV,take_succ_cons -> dW,filter_append -> dY,mem_singleton -> eF,flatMap -> eG,getElem?_take -> eP,getElem?_map -> fB,append_nil -> fJ,map_take -> gG
open Go.Proofs.Tryz renaming prog -> aB
open Ix renaming JJ -> aC,c2x -> bJ,Rec -> bT,UO -> dD,GU -> dJ,XF -> dP,UH -> dX,Pl -> fE,cnt -> fF,BK -> fG,scan -> fM,vals -> fO,KW -> gB
open Ke renaming up -> aG,digit -> aN,okb -> aY,val -> bF,MP -> bH,digits -> bQ,nb -> bZ,a1G -> dM,WZ -> eH,a2e -> fA,a4t -> fZ
open Nat renaming le_refl -> aP,min_eq_right -> aS,zero_le -> bG,min_eq_left -> dK
open Int renaming natCast_mul -> aV
open Go.Sx.J renaming ev -> aW,z -> cO,op -> dZ
open UInt8 renaming ofNat -> aZ,toNat_inj -> fK
open Go.Sx.Ej renaming round -> bK,keep -> dQ,keepR -> fD,perm -> fU,QW -> fV
open Go.Sx.yY renaming toPure -> bV
open Go.Sx.Cj renaming EX -> bW,loop -> eU
open Go.Sx.Keeps renaming d -> dB,r -> eX,k -> fQ
open Go.Value renaming int -> dF,oneCell' -> fP
open Classical renaming byContradiction -> dI
open Go.Sx.yZ renaming OA -> dR
open Go.Sx.Src renaming row -> eY
open Prod renaming ext -> fC
open Go.Sx.JA renaming zt -> fH
section
namespace Go.Proofs.YtekmeaoblpfnpaaGreatDoor
open _root_.Go.Proofs.Tryz
open Go Go.Sx
theorem c2R{I L t xs}(N:OI I xs ((Ix.KC L t).getD []))(h:xs.find? (fun x=>decide (x.1.name=gB))=none):dX L t=[]:=by
 rw[a8O,←N.1,b0o,h];rfl
theorem c3Y{I L t xs x}(N:OI I xs ((Ix.KC L t).getD []))(h:xs.find? (fun x=>decide (x.1.name=gB))=some x):dX L t=x.1.key:=by
 rw[a8O,←N.1,b0o,h];rfl
abbrev isT (x:VW):Bool:=decide (x.1.name=gB)
abbrev DK (x:List UInt8×Nat):List UInt8×Int:=(x.1,(x.2:Int))
abbrev b5D (l:List (List UInt8×Nat)) (v:Value) (H:HL):Prop:=SB 268 II (l.map DK) v H
def VG (n b:List UInt8) (p:fE):Bool:=decide (p.1=n) && !decide (p.2<b)
def SL (L:Ix.Ix) (n b:List UInt8) (vis:ML fE):List (List UInt8×Nat):=(vis.filter fun x=>VG n b x.1).map fun x=>(x.1.2,(dJ L n x.1.2).length)
theorem ND L n b vis x:SL L n b (vis++[x])=SL L n b vis++if VG n b x.1=true then[(x.1.2,(dJ L n x.1.2).length)]else[]:=by
 unfold SL;rw[dY,List.map_append]
 by_cases h:VG n b x.1=true
 ·rw[zF h];simp[h]
 rw[zD h];simp[h]
theorem c3T L n b vis:(SL L n b vis).length≤vis.length:=by
 unfold SL;rw[aU];exact dN _ _
structure TB where
  vis:ML Ix.Pl
  rest:ML Ix.Pl
  g:Gs
theorem c2S{I:Heap}{b l c N f}(h:CJ l c N f)(hI:∀q∈setH b l c N,I q.1=some q.2){x}(hx:x∈l):∃O m k,x.2.1= .map (some O)∧I O=some (zY zZ m k)∧MS m k∧m≠[]∧∀t,AA m t=cv (f x.1 t):=by
 have h1:kvp x∈N.map nvp:=by rw[←h.vals];exact bC hx
 obtain⟨⟨a,O,m,k⟩,W,Z⟩:=aI.1 h1;have e1:a=x.1:=zC (·.1) Z;have e2:Value.map (some O)=x.2.1:=zC (·.2) Z;subst e1;obtain⟨g1,g2,g3⟩:=h.inn _ W;exact⟨O,m,k,e2.symm,hI (O,_) (.tail _ (aI.2 ⟨_,W,rfl⟩)),g1,g2,g3⟩
theorem b4s{l:ML fE}{c:Nat}{N:OW fE bT}{f:fE→bT→Nat}(h:CJ l c N f)(p:fE):p∈l.map (·.1)↔∃t,f p t≠0:=by
 rw[h.keys];constructor
 ·intro O;obtain⟨e,W,rfl⟩:=aI.1 O;obtain⟨_,Z,g3⟩:=h.inn e W;obtain⟨⟨t,v,n⟩,r,hr⟩:=List.exists_cons_of_ne_nil Z;refine⟨t,fun hz=>?_⟩;have h2:=g3 t;rw[hz]at h2;have h3:AA e.2.2.1 t=none:=h2;exact IW.1 h3 (by rw[hr];exact .head _)
 rintro⟨t,ht⟩;exact dI fun g=>ht (h.out p g t)
theorem keys_le{L l c N}(h:CJ l c N (fF dP L))(hs:fG L)(hL:L.length≤100000)(hv:∀e∈L,JZ e.2):l.length≤1000000000000:=by
 have h1:(l.map (·.1)).length≤(L.flatMap fun e=>dP e.2).length:=by
  refine a1Z h.ms.1 fun p hp=>?_;obtain⟨e,O,W⟩:=(Ix.a1e hs).1 ((b4s h p).1 hp);exact List.mem_flatMap.2 ⟨e,O,W⟩
 have h2:∀M:Ix.Ix,(∀e∈M,JZ e.2)→(M.flatMap fun e=>dP e.2).length≤M.length*10000000:=by
  intro M
  induction M with
  |nil=>intro _;simp
  |cons a r ih=>
   intro Z;have:=ih fun e O=>Z e (.tail _ O);have h3:=(Z a (.head _)).k;rw[List.flatMap_cons,aK,aQ,Nat.add_mul];omega
 rw[aU]at h1;exact FD (FD h1 (h2 L hv)) (Nat.mul_le_mul_right 10000000 hL)
theorem b2q{a b:List UInt8}(h:¬b<a)(N:a≠b):a<b:=Std.lt_of_le_of_ne (Std.not_lt.1 h) N
theorem c0E{L l c N}(h:CJ l c N (fF dP L))(hs:fG L){n b vis}(hp:vis.Perm l){ls}(a1:ls.Perm ((SL L n b vis).map DK))(ho:ls.Pairwise fun p q=>¬q.1<p.1):ls=((Ix.EI L n b).map fun k=>(k,(dJ L n k).length)).map DK:=by
 have W:∀x∈vis.filter (fun x=>VG n b x.1),x.1.1=n∧¬x.1.2<b:=fun x O=>by
  have:=(bU.1 O).2;unfold VG at this;rw[Bool.and_eq_true,zG,Bool.not_eq_true',decide_eq_false_iff_not]at this;exact this
 have a4:((SL L n b vis).map (·.1)).Nodup:=by
  unfold SL;rw[bD];have h1:((vis.filter fun x=>VG n b x.1).map (·.1)).Nodup:=((hp.map _).nodup_iff.2 h.ms.1).sublist (List.filter_sublist.map _);rw[dG,dH]at h1 ⊢;refine(bI.2 fun {x y} Z=>?_);have O:=W x (Z.subset (.head _));have hy:=W y (Z.subset (.tail _ (.head _)));have a5:=bI.1 h1 Z;exact fun e=>a5 (fC (O.1.trans hy.1.symm) e)
 have a0:∀x∈ls,x.2=((dJ L n x.1).length:Int):=fun x O=>by
  obtain⟨y,hy,rfl⟩:=aI.1 (a1.mem_iff.1 O);obtain⟨z,_,rfl⟩:=aI.1 hy;rfl
 have hk:(ls.map (·.1)).Perm ((SL L n b vis).map (·.1)):=by
  have:=a1.map (·.1)
  rwa [bD]at this
 have a2:Ke.Inc (ls.map (·.1)):=by
  unfold Ke.Inc;have h1:=hk.nodup_iff.2 a4;rw[dG,dH]at h1;rw[dH];exact(List.pairwise_and_iff.2 ⟨ho,h1⟩).imp fun {x y} ⟨h2,h3⟩=>b2q h2 h3
 have a3:=Ix.RY hs (n:=n) (b:=b) (ls:=ls.map fun x=>(x.1,x.2.toNat)) (by rw[bD];exact a2) (fun k=>?_) (fun x O=>?_)
 ·rw[←a3,bD]
  conv=>lhs;rw[←List.map_id ls]
  refine List.map_congr_left fun x O=>?_;have:=a0 x O;show x=(x.1,((x.2.toNat:Nat):Int));refine fC rfl ?_;show x.2=_;omega
 ·rw[bD];show k∈ls.map (·.1)↔_;rw[hk.mem_iff,←b4s h];unfold SL;rw[bD];constructor
  ·intro hm;obtain⟨x,O,rfl⟩:=aI.1 hm;obtain⟨h1,h2⟩:=W x O;refine⟨h2,?_⟩;show(n,x.1.2)∈_;rw[←h1,←(hp.map (·.1)).mem_iff];exact bC (bU.1 O).1
  rintro⟨h1,h2⟩;rw[←(hp.map (·.1)).mem_iff]at h2;obtain⟨x,O,he⟩:=aI.1 h2;refine aI.2 ⟨x,bU.2 ⟨O,?_⟩,?_⟩
  ·unfold VG;rw[he,zH rfl,Bool.true_and,zI h1];rfl
  show x.1.2=k;rw[he]
 obtain⟨y,hy,rfl⟩:=aI.1 O;have:=a0 y hy;show y.2.toNat=_;rw[this];rfl
theorem b8S ib mb m k0 wm km L t I (a6:JZ ((Ix.KC L t).getD []))(a7:I ib=some (yX 114 [.map (some mb),.map wm,.map km]))(a3:I mb=some (zY zZ m k0))(af:MS m k0)(a8:UW I m L):Pure aB 28 [ptr ib 0,zZ t] I (str (dX L t)):=by
 refine bV ?_;obtain⟨vv,W,xs,Z,hX⟩:=a8.at t;have ag:=hX.len;have ah:=a6.1;refine zQ func28 fun w0 _=>?_;refine yU 3 ?_;intro _ _;refine yU 14 ?_;refine bW [0] [] 8 kR ?_;have ae:=a7;have a2:=a3;refine yU 5 ?_;refine fH 5 rfl (BI (kv:=zZ) (l:=m) (a:=t) rfl rfl rfl rfl PW EZ XU (dR a2)) ?_;refine JA.ev 13 vv rfl W ?_;refine zX (XH xs _ isT _ [] oM _ Z.row hX.2 (fun x hx=>by obtain⟨p9,c9,O⟩:=JQ (hX.2 x hx);exact b9E x p9 _ c9 O _)) ?_;refine zK ?_ ?_<;>intro a0 a4
 ·have N:xs.find? isT=none:=((MZ isT xs).resolve_right (fun⟨k,x,h,_⟩=>by have O:=ED a0;rw[h]at O;omega)).2;refine AB ?_;rw[c2R hX N];exact rT
 obtain⟨k,x,a9,a1,N⟩:=(MZ isT xs).resolve_left (fun h=>by have O:=FQ a0;rw[h.1]at O;exact O dE);have a5:=(aH.1 a1).1;obtain⟨_,aa,ab,_,ac⟩:=id Z;rw[ab]at W ⊢;obtain⟨rb,_,rfl,ad⟩:=ac (zU a5);rw[a9];refine yU 3 ?_;refine bW [0] [] 11 kR ?_;refine yU 5 ?_;refine fH 5 rfl (BI (kv:=zZ) (l:=m) (a:=t) rfl rfl rfl rfl PW EZ XU (dR a3)) ?_;refine JA.ev 22 (.slice (some ⟨rb,0,none⟩) xs.length aa) rfl W ?_;refine zW (0+k*3) ?_;refine fH 8 rfl (CV (off':=0+k*3+1) a0m AV) ?_;refine fH 9 rfl (AX rfl rfl CU (dR ad) (DT YN (o:=0) rfl a1 1 dE)) ?_;refine AB ?_;rw[c3Y hX N];exact rT
theorem b8g O wm km t I (W:I O=some (yX 114 [.map none,.map wm,.map km])):Pure aB 28 [ptr O 0,zZ t] I (str []):=by
 refine bV ?_;refine zQ func28 fun w0 _=>?_;refine yU 3 ?_;intro _ _;refine yU 14 ?_;refine bW [0] [] 8 kR ?_;have Z:=W;refine yU 5 ?_;refine fH 5 rfl (JX (kv:=zZ) (a:=t) rfl rfl rfl rfl PW EZ XU) ?_;refine zX (XH [] _ isT _ [] dE _ zS.nil (fun x N=>by cases N) (fun x N=>by cases N)) ?_;refine yU 1 ?_;refine JA.ev 14 (i64 (-1)) rfl rfl ?_;refine AB ?_;exact rT
theorem b9I N L t I (O:UF I N L):Pure aB 28 [ptr N 0,zZ t] I (str (dX L t)):=by
 obtain⟨_,W,Z,hI,hV,-,-⟩:=O.parts;rcases hV with⟨rfl,rfl⟩|⟨b,l,c,rfl,a0,a1,hb⟩
 ·exact b8g N W Z t I hI
 exact b8S N b l c W Z L t I (a9l O t) hI hb a0 a1
theorem b3L a n c (N:n≤c) I:Pure aB 222 [.slice a n c] I (.slice a n n):=by
 refine bV ?_;refine zQ func222 fun w0 _=>?_;refine yU 12 ?_;refine cO (b8Q (k:=n) (m:=n) rfl rfl rfl rfl UR UL (aP _) N) ?_;refine zV ?_;exact rT
theorem c4Y{α:Type}{T:TypeId}{f:α→List Value}{l:List α}{v:Value}{H:HL}(h:SB T f l v H):∃a c,v= .slice a l.length c∧l.length≤c:=by
 rcases h with⟨rfl,rfl,rfl⟩|⟨b,c,sp,rfl,N,rfl⟩
 ·exact⟨none,0,rfl,aP _⟩
 exact⟨_,c,rfl,N⟩
theorem c1O{α:Type}{T:TypeId}{f:α→List Value}{l:List α}{a:Option Addr}{c:Nat}{H:HL}(h:SB T f l (.slice a l.length c) H){k:Nat}(O:k≤l.length):SB T f (l.take k) (.slice a k k) H:=by
 rcases h with⟨rfl,N,rfl⟩|⟨b,c,sp,N,W,rfl⟩
 ·cases N;have:k=0:=by simpa using O
  subst this;exact .inl rT
 cases N;refine .inr ⟨b,k,(l.drop k).flatMap f++sp,by rw[aA,dK O],by rw[aA];omega,?_⟩;rw[←List.append_assoc,←dV,List.take_append_drop]
theorem c2i{L n s N ls a c v H}(O:ls=((Ix.EI L n (Ix.keyOf n s)).map fun k=>(k,(dJ L n k).length)).map DK)(h:SB 268 II ls v H)(W:v= .slice a ls.length c):b5D (fM L n s N) (.slice a (min ls.length N.toNat) (min ls.length N.toNat)) H:=by
 subst W;have h1:=c1O h (Nat.min_le_left ls.length N.toNat);have h2:ls.take (min ls.length N.toNat)=(fM L n s N).map DK:=by
  rw[←Ix.a8v,gG,←O];rcases Nat.le_total ls.length N.toNat with g|g
  ·rw[dK g,List.take_length,aF g]
  rw[aS g]
 rw[h2]at h1;exact h1
theorem c2I{L}(O:fG L){m k}(W:MS m k){p}(N:∀t,AA m t=cv (fF dP L p t)){n}(Z:p.1=n):((m.length:Nat):Int)=((dJ L n p.2).length:Int):=by
 subst Z;have h:=Ix.c1x O (n:=p.1) (k:=p.2) (ts:=m.map (·.1)) W.1 fun t=>by
  constructor
  ·intro h1;have h2:AA m t≠none:=fun g=>IW.1 g h1;rw[N]at h2;exact fun g=>h2 (by rw[show fF dP L p t=0 from g];rfl)
  intro h1;refine dI fun g=>?_;have h2:=IW.2 g;rw[N,b6M h1]at h2;cases h2
 rw[aU]at h;rw[h]
theorem b7p(n:Nat) N:(if (if (0:Int)>N then(0:Int)else N)<(n:Int)then(if (0:Int)>N then(0:Int)else N)else(n:Int))=((min n N.toNat:Nat):Int):=by
 repeat(first|omega|split)
theorem b8t ib kb vm wm l c N L n s (hs : s.length ≤ 100000000) W I (a1 : Ix.BK L) (hN : CJ l c N (Ix.cnt Ix.XF L)) (ar : l.length ≤ 1000000000000) (av : I ib = some (yX 114 [.map vm, .map wm, .map (some kb)])) (hI : ∀ q ∈ setH kb l c N, I q.1 = some q.2) : yY Tryz.prog 160 [ptr ib 0, str n, str s, i64 W] I [] (fun e _ H' => ∃ v, e = .returned v ∧ b5D (Ix.scan L n s W) v H') := by
 have a2 : I kb = some (zY FH l c) := hI (kb, _) (.head _)
 refine zQ func160 fun w0 _ => ?_
 refine zX (a5l n s hs _) ?_
 refine yU 15 ?_
 refine J.op rfl (NV (kv := FH) (l := l) rfl rfl rfl rfl JK (yZ.LK a2) ?_)
 intro b2 _
 refine yU 3 ?_
 refine Cj.loop (ι := TB) (fun y => (y.vis ++ y.rest).Perm l ∧ BL w0.heap.size 2 (SL L n (Ix.keyOf n s) y.vis).length (((SL L n (Ix.keyOf n s) y.vis).map DK).flatMap II) y.g) (fun y => y.rest.length) (fun y => [(1, str n), (3, i64 W), (9, str (Ix.keyOf n s)), (10, gV (SL L n (Ix.keyOf n s) y.vis).length y.g), (22, ptr b2 0)]) (fun y => _) (fun y => (b2, WT kb c y.vis c) :: gH 268 (((SL L n (Ix.keyOf n s) y.vis).map DK).flatMap II) y.g) ⟨[], l, none⟩ ⟨.refl _, rfl, rfl⟩ ⟨rfl, rfl, rfl, rfl, rfl, trivial⟩ rfl rfl ?_
 rintro ⟨vis, rest, g⟩ ⟨hp, hg⟩
 dsimp only at hp hg ⊢
 have ae := hp.length_eq
 rw [List.length_append] at ae
 have au := c3T L n (Ix.keyOf n s) vis
 refine yU 2 ?_
 refine J.op rfl (QJ (kv := FH) (l := l) 0 rfl rfl rfl rfl rfl (yZ.LK a2) hN.ms.2.2 (Nat.le_refl _) hN.ms.2.1 hp ?_ ?_)
 ·rintro x Z H9 a3 a0 ⟨-, hset⟩; simp only [List.set_cons_zero, List.set_cons_succ] at hset; subst hset
  obtain ⟨mb, m, k, ah, ai, aj, _, al⟩ := c2S hN hI (a0.mem_iff.1 (List.mem_append_left _ (List.mem_append_right _ (.head _))))
  refine yU 10 ?_
  refine J.z (VY (kv := FH) (l := l) rfl rfl (yZ.at 0 rfl) (yZ.LK a2) (a0.mem_iff.1 (List.mem_append_left _ (List.mem_append_right _ (.head _)))) hN.ms.2.1) ?_
  refine yU 2 ?_
  refine J.ev 27 (.map (some mb)) rfl ah ?_
  refine yU 1 ?_
  intro _ _
  refine EK (fun a4 af => ?_) (fun a4 af => ?_)
  ·have a5 : x.1.1 = n := CO a4
   refine yU 3 ?_
   refine J.zg (a3l rfl rfl rfl) ?_
   refine DI (fun a6 => ?_) (fun a6 => ?_)
   ·have O : VG n (Ix.keyOf n s) x.1 = true := by unfold VG; rw [decide_eq_true a5, Bool.true_and]; exact a6
    refine yU 5 ?_
    refine J.z (MK (kv := zZ) (l := m) rfl rfl IC (yZ.LK ai)) ?_
    refine J.ev 42 (i64 ((Ix.GU L n x.1.2).length : Int)) rfl (congrArg i64 (c2I a1 aj al a5)) ?_
    refine J.z (zN (pl := #[(0, 1), (1, 1)]) rfl rfl a3S rfl c2u (fun w => by simp [DX, AV]) (FB.part rfl rfl rfl (AL.c AL.z) (FB.part rfl rfl rfl (AL.s (AL.c AL.z)) FB.none))) ?_
    refine J.op rfl (ER UR UL a3S (EH.agg rfl EH.none) ?_)
    intro b7 _
    refine J.op rfl (AQ (by' := 23) [_, _, _] rfl rfl rfl rfl rfl UR (.inr ⟨_, UR⟩) (by kernel_rfl) UL a3S rfl hg rfl (Src.slice (yZ.at 0 rfl) rfl rfl rfl) (by omega) ?_)
    intro g8 am
    refine yU 3 ?_
    refine Ej.keep (Keeps.d (Keeps.d (Keeps.k Keeps.r))) ?_
    refine Ej.round ⟨vis ++ [x], Z, g8⟩ ⟨a0, by dsimp only; rw [ND, if_pos O, List.length_append, List.map_append, List.flatMap_append]; exact am⟩ (by have h := a3.length_eq; simp only [List.length_cons] at h; dsimp only; omega) ⟨rfl, rfl, rfl, by dsimp only; rw [ND, if_pos O, List.length_append]; rfl, rfl, trivial⟩ rfl (by dsimp only; rw [ND, if_pos O, List.map_append, List.flatMap_append]; rfl)
   have O : ¬ VG n (Ix.keyOf n s) x.1 = true := by unfold VG; rw [decide_eq_true a5, Bool.true_and]; exact fun e => Bool.noConfusion (e.symm.trans a6)
   refine yU 2 ?_
   refine Ej.keep (Keeps.d (Keeps.k Keeps.r)) ?_
   refine Ej.round ⟨vis ++ [x], Z, g⟩ ⟨a0, by dsimp only; rw [ND, if_neg O, List.append_nil]; exact hg⟩ (by have h := a3.length_eq; simp only [List.length_cons] at h; dsimp only; omega) ⟨rfl, rfl, rfl, by dsimp only; rw [ND, if_neg O, List.append_nil]; rfl, rfl, trivial⟩ rfl (by dsimp only; rw [ND, if_neg O, List.append_nil])
  have O : ¬ VG n (Ix.keyOf n s) x.1 = true := by unfold VG; rw [decide_eq_false (CW a4)]; exact Bool.false_ne_true
  refine yU 10 ?_
  refine Ej.keep (Keeps.d (Keeps.k Keeps.r)) ?_
  refine Ej.round ⟨vis ++ [x], Z, g⟩ ⟨a0, by dsimp only; rw [ND, if_neg O, List.append_nil]; exact hg⟩ (by have h := a3.length_eq; simp only [List.length_cons] at h; dsimp only; omega) ⟨rfl, rfl, rfl, by dsimp only; rw [ND, if_neg O, List.append_nil]; rfl, rfl, trivial⟩ rfl (by dsimp only; rw [ND, if_neg O, List.append_nil])
 intro ag
 refine yU 11 ?_
 have an : vis.Perm l := by rw [ag, List.append_nil] at hp; exact hp
 have a9 : BL w0.heap.size 2 ((SL L n (Ix.keyOf n s) vis).map DK).length (((SL L n (Ix.keyOf n s) vis).map DK).flatMap II) g := by rw [List.length_map]; exact hg
 refine yU 2 ?_
 refine J.ev 46 (gV ((SL L n (Ix.keyOf n s) vis).map DK).length g) rfl (by rw [List.length_map]) ?_
 refine MJ [_] (a4G ((SL L n (Ix.keyOf n s) vis).map DK) g a9 (by rw [List.length_map]; omega) _) ?_
 rintro _ _ H9 _ ⟨ls, aa, ao, h, rfl⟩; cases h
 have ap := c0E hN a1 an aa ao
 have a7 : ((SL L n (Ix.keyOf n s) vis).map DK).length = ls.length := aa.length_eq.symm
 have aq : BL w0.heap.size 2 ls.length (ls.flatMap II) g := by rw [← a7]; exact a1m a9 (by rw [DN IX, DN IX, a7])
 refine yU 3 ?_
 obtain ⟨a8⟩ : Nonempty (SB 268 II ls (gV ls.length g) (gH 268 (ls.flatMap II) g)) := ⟨SB.b9Y IX (by decide) rfl aq⟩
 obtain ⟨sa, sc, ab, ac⟩ : ∃ a c, gV ls.length g = .slice a ls.length c ∧ ls.length ≤ c := c4Y a8
 have ad : gV (SL L n (Ix.keyOf n s) vis).length g = .slice sa ls.length sc := by rw [← ab, ← a7, List.length_map]
 refine yU 2 ?_
 refine J.ev 48 (.slice sa ls.length sc) rfl ad ?_
 refine yU 1 ?_
 refine J.ev 49 (.slice sa ls.length sc) rfl ad ?_
 refine yU 2 ?_
 refine J.z (SK rfl rfl rfl) ?_
 refine J.z (NT rfl rfl rfl) ?_
 refine J.ev 53 (i64 ((min ls.length W.toNat : Nat) : Int)) rfl (congrArg i64 (b7p _ _)) ?_
 refine J.z (LJ (k := (min ls.length W.toNat)) rfl rfl rfl UR UL rfl (FD (Nat.min_le_left _ _) ac)) ?_
 refine zX (b3L sa (min ls.length W.toNat) sc (FD (Nat.min_le_left _ _) ac) _) ?_
 refine yU 4 ?_
 refine Ej.keep (H' := gH 268 (ls.flatMap II) g) (List.sublist_append_right [_] _) ?_
 refine zV ?_
 exact ⟨_, rfl, c2i ap a8 ab⟩
theorem b6K O vm wm n s (hs:s.length≤100000000) N I (a0:I O=some (yX 114 [.map vm,.map wm,.map none])):yY aB 160 [ptr O 0,str n,str s,i64 N] I [] (fun e _ H'=>e= .returned (.slice none 0 0)∧H'=[]):=by
 refine zQ func160 fun w0 _=>?_;refine zX (a5l n s hs _) ?_;refine yU 15 ?_;refine dZ rfl (LQ rfl rfl rfl rfl JK ?_);intro _ _;refine yU 3 ?_;refine Cj.rounds 1 ?_;refine Rj.succ ?_;refine yU 2 ?_;refine dZ rfl (MV 0 rfl rfl rfl rfl rfl ?_);refine MJ [_] (a4G (base:=0) [] none rT dE _) ?_;rintro _ _ _ _ ⟨ts,W,_,h,rfl⟩;cases h;have Z:=W.eq_nil;subst Z;refine yU 8 ?_;refine cO (SK rfl rfl rfl) ?_;refine cO (NT rfl rfl rfl) ?_;refine aW 53 (i64 ((0:Nat):Int)) rfl (zC i64 (b7p 0 N |>.trans (by rw[Nat.zero_min]))) ?_;refine cO (LJ (k:=0) rfl rfl rfl UR UL rfl (aP _)) ?_;refine zX (b3L none 0 0 (aP _) _) ?_;refine AB ?_;exact rT
theorem b8X{L}(O:fG L)(W:∀p t,fF dP L p t=0) n s N:fM L n s N=[]:=by
 have h:=Ix.RY O (n:=n) (b:=Ix.keyOf n s) (ls:=[]) List.Pairwise.nil (fun k=>⟨fun h=>(by cases h),fun⟨_,t,Z⟩=>absurd (W _ t) Z⟩) (fun x hx=>by cases hx);rw[←Ix.a8v,←h,List.take_nil]
theorem c2Z Z L n s (hs:s.length≤100000000) O I (W:UF I Z L):yY aB 160 [ptr Z 0,str n,str s,i64 O] I [] (fun e _ H'=>∃v,e= .returned v∧b5D (fM L n s O) v H'):=by
 obtain⟨vm,wm,_,hI,-,-,hK⟩:=W.parts;have hv:∀e∈L,JZ e.2:=by
  obtain⟨o,h1,_⟩:=W;cases o with
  |none=>rw[show L=[] from h1];intro e he;cases he
  |some s=>exact GN.vok h1
 rcases hK with⟨rfl,hz⟩|⟨b,l,c,N,rfl,hN,hq⟩
 ·rw[b8X W.GY hz];exact(b6K Z vm wm n s hs O I hI).mono fun e _ H' _ ⟨h1,h2⟩=>⟨_,h1,.inl ⟨rfl,rfl,h2⟩⟩
 exact b8t Z b vm wm l c N L n s hs O I W.GY hN (keys_le hN W.GY W.big hv) hI hq
theorem c1N n s (W:s.length≤100000000) I:yY aB 32 [.pointer none,str n,str s] I [] (fun e _ H'=>e= .returned (.slice none 0 0)∧H'=[]):=by
 refine zQ func32 fun w0 _=>?_;refine AP (SA s oM _) ?_;intro _ _ _ _ N;obtain⟨_,h,O,rfl⟩:=N;cases h;obtain⟨wp,_,rfl⟩:=JQ O;refine zV ?_;exact rT
theorem b6b n s (W:s.length≤100000000) I:yY aB 33 [.pointer none,str n,str s] I [] (fun e _ H'=>e= .returned (.slice none 0 0)∧H'=[]):=by
 refine zQ func33 fun w0 _=>?_;refine yU 3 ?_;intro _ _;refine yU 1 ?_;intro _ _;refine AP (SA s oM _) ?_;intro _ _ _ _ N;obtain⟨_,h,O,rfl⟩:=N;cases h;obtain⟨wp,_,rfl⟩:=JQ O;refine yU 1 ?_;intro _ _;refine AB ?_;exact rT
theorem c3V n s I:yY aB 34 [.pointer none,str n,str s] I [] (fun e _ H'=>e= .returned (.slice none 0 0)∧H'=[]):=by
 refine zQ func34 fun w0 _=>?_;refine zV ?_;exact rT
theorem c0I n s N I:yY aB 160 [.pointer none,str n,str s,i64 N] I [] (fun e _ H'=>e= .returned (.slice none 0 0)∧H'=[]):=by
 refine zQ func160 fun w0 _=>?_;refine zV ?_;exact rT
theorem c0i t I:Pure aB 28 [.pointer none,zZ t] I (str []):=by
 refine bV ?_;refine zQ func28 fun w0 _=>?_;refine yU 3 ?_;intro _ _;refine AB ?_;exact rT
abbrev zJ (e:FY):bT×List Ix.V:=(e.t,fO e.fs)
theorem a6v{es:List FY}{i e}(h:es[i]?=some e):bJ ((es.take (i+1)).map zJ) []=Ix.KY e.t (fO e.fs) (bJ ((es.take i).map zJ) []):=by
 rw[RV zJ h];unfold bJ;rw[List.foldl_append];rfl
def FN (I:Heap) (es:List FY) (v:Value):Prop:=zS IB I es v∧∀e∈es,QX I e.fs e.v
theorem FN.mono{I O es v}(h:FN I es v)(N:Le I O):FN O es v:=⟨h.1.mono N,fun e W=>(h.2 e W).mono N⟩
structure BA where
  i:Nat
  J:Heap
  o:Option Ist
theorem a7n{e p n c}(h:e.v= .slice p n c):(IB e).all fP=true:=by unfold IB;rw[h];rfl
theorem c1t es v (af:es.length≤1000)(a9:∀e∈es,RH e.fs) I (a3:FN I es v):yY aB 48 [v] I [] (fun e I' H'=>∃ib o,e= .returned (ptr ib 0)∧OB I' o (bJ (es.map zJ) [])∧H'=ixH ib o):=by
 obtain⟨p,c,rfl,_,-⟩:=id a3.1;refine zQ func48 fun w0 _=>?_;refine yU 7 ?_;refine cO (zN (pl:= #[(0,1),(1,1),(2,1)]) rfl rfl zeroValue114 rfl a0s (fun w=>by simp[YE,YH]) FB.none) ?_;refine yU 1 ?_;intro b1 _;refine yU 12 ?_;refine eU (ι:=BA) (fun y=>y.i≤es.length∧Le I y.J∧OB y.J y.o (bJ ((es.take y.i).map zJ) [])∧(bJ ((es.take y.i).map zJ) []).length≤y.i) (fun y=>es.length-y.i) (fun y=>[(3,ptr b1 0),(8,.slice p es.length c),(9,i64 (es.length:Int)),(10,i64 (y.i:Int))]) (fun y=>y.J) (fun y=>ixH b1 y.o) ⟨0,_,none⟩ ⟨bG _,Le.refl _,rfl,aP _⟩ rT rfl rfl ?_;rintro⟨i,_,o⟩ ⟨hi,a0,O,a6⟩;dsimp only at hi a0 O a6 ⊢;have hE:=a3.mono a0;refine zK ?_ ?_<;>intro aa a7
 ·have a4:i<es.length:=oM;obtain⟨e0,W⟩:∃e,es[i]?=some e:=⟨_,BM a4⟩;have a5:=CX W;obtain⟨⟨p1,c1,ab,_,hp⟩,a1⟩:=id hE;cases ab;obtain⟨_,eo,_,_,_,_,rfl,a2,ac⟩:=hp (zU a4);have Z:=a1 e0 a5;clear a1;obtain⟨_,_,ad,-,-⟩:=id Z.1;refine zW (eo+i*5) ?_;refine cO (BJ isAgg59 OV (yZ.LK a2) (BF IL ac W)) ?_;refine yU 1 ?_;intro _ _;refine dZ rfl (CS 0 rfl rfl rfl rfl rfl (a7n ad) OV rfl rfl lsA AU.z ?_);refine MJ [_] (b8w b1 o (bJ ((es.take i).map zJ) []) e0 _ O oM (a9 e0 a5) Z) ?_;intro _ _ _ N ae;have hE:=hE.mono N;have O:=O.mono N;have a0:=a0.mono N;have a2:=N _ _ a2;have Z:=Z.mono N;obtain⟨o1,h,a8,rfl⟩:=ae;cases h;refine yU 7 ?_;refine dQ (dB eX) ?_;refine bK ⟨i+1,_,o1⟩ ⟨dO,a0,by dsimp only;rw[a6v W];exact a8,by dsimp only;rw[a6v W];have:=a2k e0.t (fO e0.fs) (bJ ((es.take i).map zJ) []);omega⟩ dO rT rfl rfl
 rw[aF (oM:es.length≤i)]at O;refine zV ?_;exact⟨_,o,rfl,O,rfl⟩
end Go.Proofs.YtekmeaoblpfnpaaGreatDoor
end
namespace Go.Sx
open Go
section
variable {P:Program} {K i j:TypeId} {f0 f1:Field}
def EqK {α:Type} [BEq α] (P:Program) (K:TypeId) (kv:α→Array Value):Prop:=∀a b w,(Op.equalIn 10000 K (.agg (kv a)) (.agg (kv b))).run P w= .ok (a == b) w
theorem EqK.b5p(Z:P.underlying K=some (.struct #[f0,f1]))(hp:P.stoodInHeld K=false)(n0:f0.name≠ "_")(n1:f1.name≠ "_")(o0:f0.offset=0)(o1:f1.offset=1)(t0:f0.type=i)(N:f1.type=i)(O:P.underlying i=some (.int .i64))(W:∀w,(isAgg i).run P w= .ok false w):
 EqK P K (fun a:Int×Int=> #[i64 a.1,i64 a.2]):=by
 subst t0;exact fun a b w=>a0L Z hp n0 n1 o0 o1 W (N▸W) (x0:=i64 a.1) (x1:=i64 a.2) (y0:=i64 b.1) (y1:=i64 b.2) w (fun d w=>run_equalIn_int w d _ .i64 .i64 a.1 b.1 O) (fun d w=>run_equalIn_int w d _ .i64 .i64 a.2 b.2 (N▸O)) 9998
end
section
variable {cx:Cx} {S:World→Prop} {ev0:Env} {o:Oper} {α:Type} [BEq α] {t:TypeId} {kv:α→Array Value}
theorem b4D{x y U a b}{vs N:List Value}(ho:o.op= .binOp .eql t x y U)(W:ev ev0 x=some (.agg vs.toArray))(Z:ev ev0 y=some (.agg N.toArray))(a0:vs.toArray=kv a)(a1:N.toArray=kv b)
 (hK:EqK cx.P t kv)(hq:cx.P.eqGuardType cx.P.depth t=false):BO cx o ev0 S (.bool (a == b)):=by
 intro w0 w hw _;have O:(eqGuard .eql t x y (.agg vs.toArray) (.agg N.toArray)).run cx.P w= .ok () w:=by
  simp[eqGuard,hq]
 have h1:=run_eql_struct (P:=cx.P) w t vs.toArray N.toArray;rw[a0]at h1 O W;rw[a1]at h1 O Z;rw[hK a b w]at h1;simp[execOp,ho,hw.eval W,hw.eval Z,O,h1]
theorem c2M{x y U a b}{vs N:List Value}(ho:o.op= .binOp .neq t x y U)(W:ev ev0 x=some (.agg vs.toArray))(Z:ev ev0 y=some (.agg N.toArray))(a0:vs.toArray=kv a)(a1:N.toArray=kv b)
 (hK:EqK cx.P t kv)(hq:cx.P.eqGuardType cx.P.depth t=false):BO cx o ev0 S (.bool (a != b)):=by
 intro w0 w hw _;have O:(eqGuard .neq t x y (.agg vs.toArray) (.agg N.toArray)).run cx.P w= .ok () w:=by
  simp[eqGuard,hq]
 have h1:=run_neq_struct (P:=cx.P) w t vs.toArray N.toArray;rw[a0]at h1 O W;rw[a1]at h1 O Z;rw[hK a b w]at h1;simp[execOp,ho,hw.eval W,hw.eval Z,O,h1,bne]
end
section
variable {cx:Cx} {S:World→Prop} {ev0:Env} {o:Oper}
theorem a8k{x T k N v}(O:o.op= .field T x k)(W:ev ev0 x=some N)(Z:∀w,(Instr.field T N k).run cx.P w= .ok v w):BO cx o ev0 S v:=by
 intro w0 w hw _;simp[execOp,O,hw.eval W,Z]
end
theorem Pure.borrow{P f args I B v}(N:Enters P f)(h:∀J,Le I J→(∀p∈B,J p.1=some p.2)→Pure P f args J v):yY P f args I B (fun e _ H'=>e= .returned v∧H'=B):=by
 refine yY.a8P N fun O W=>?_;refine(yY.borrow (h (WJ B I) (b1p W) (ZG O))).mono fun e _ H' _ ⟨J,K,⟨h1,h2,h3⟩,Z,_,_⟩=>⟨h1,?_⟩;subst h3;rw[Z,fJ]
end Go.Sx
section
namespace Go.Proofs.YtekmeaoblpfnpaaGreatDoor
open _root_.Go.Proofs.Tryz
open Go Go.Sx
abbrev b6j (t:bT):Array Value:= #[i64 t.1,i64 t.2]
theorem b4Y:EqK aB 54 b6j:=EqK.b5p b2u kR dE dE rfl rfl rfl rfl tU3 OG
theorem a0Y{cs sp:List Value}{o k}{es:List FY}{x}(h:cs.drop o=es.flatMap IB++sp)(N:es[k]?=some x):(cs.drop (o+k*5)).take 2=recC x.t:=by
 have h1:=BF IL h N;rw[show(cs.drop (o+k*5)).take 2=((cs.drop (o+k*5)).take 5).take 2 by rw[List.take_take,show min 2 5=2 from rfl],h1];rfl
theorem b9v{a b}(h:a.1≠b.1):aC a b=decide (a.1<b.1):=by unfold aC;rw[zI (p:=a.1=b.1) h];simp
theorem c0o{a b}(h:a.1=b.1):aC a b=decide (a.2<b.2):=by unfold aC;rw[zH h,h,zI (Int.lt_irrefl _)];simp
def DC (es:List FY) (t:bT):Nat:=(es.takeWhile fun x=>aC x.t t).length
def JB (es:List FY) (t:bT):Bool:=match es[DC es t]? with
 |none=>false
 |some x=>x.t == t
def QY (es:List FY) (e:FY):List FY:=es.take (DC es e.t)++[e]++es.drop (if JB es e.t then DC es e.t+1 else DC es e.t)
def MR (es:List FY) (t:bT):List FY:=if JB es t then es.take (DC es t)++es.drop (DC es t+1)else es
theorem TJ x es t:DC (x::es) t=if aC x.t t then DC es t+1 else 0:=by
 unfold DC;rw[List.takeWhile_cons];split<;>simp_all
theorem a1i:∀(es:List FY) (t:bT),DC es t≤es.length
 |[],_=>bG _
 |x::r,t=>by rw[TJ];have:=a1i r t;split<;>simp<;>omega
theorem a7j:∀{es:List FY} {t:bT} {k:Nat},(∀x∈es.take k,aC x.t t=true)→(∀x,es[k]?=some x→aC x.t t=false)→k≤es.length→DC es t=k
 |[],_,k,_,_,hk=>by
  have:k=0:=by simpa using hk
  subst this;rfl
 |x::r,t,0,_,h2,_=>by rw[TJ,zD (by rw[h2 x rfl];decide)]
 |x::r,t,k+1,h1,h2,hk=>by
  rw[TJ,zF (h1 x (by rw[dW];exact .head _)),a7j (k:=k) (fun y N=>h1 y (by rw[dW];exact .tail _ N)) (fun y N=>h2 y (by rw[List.getElem?_cons_succ];exact N)) (by simpa using hk)]
theorem b8D{es t k x}(h:DC es t=k)(N:es[k]?=some x):JB es t=(x.t == t):=by unfold JB;rw[h,N]
theorem a8Q{es t k}(h:DC es t=k)(N:es.length≤k):JB es t=false:=by unfold JB;rw[h,List.getElem?_eq_none N]
theorem c0z{es:List FY}{t k x}(h:∀y∈es.take k,aC y.t t=true)(N:es[k]?=some x)(W:aC x.t t=true):∀y∈es.take (k+1),aC y.t t=true:=by
 obtain⟨O,N⟩:=aH.1 N;rw[aT O,N];intro y Z;rcases bY.1 Z with g|g
 ·exact h y g
 rw[eF.1 g];exact W
theorem a4y x es t:JB (x::es) t=if aC x.t t then JB es t else x.t == t:=by
 unfold JB;rw[TJ]
 by_cases h:aC x.t t=true
 ·rw[zF h,zF h];rfl
 rw[zD h,zD h];rfl
theorem b0g e:∀es:List FY,(QY es e).map zJ=Ix.KY e.t (fO e.fs) (es.map zJ)
 |[]=>rfl
 |x::r=>by
  have N:=b0g e r;unfold QY at N ⊢;rw[TJ,a4y,dS];unfold Ix.KY
  by_cases h:aC x.t e.t=true
  ·rw[zF h,zF h,zF h,←N];have O:(if JB r e.t=true then DC r e.t+1+1 else DC r e.t+1)=(if JB r e.t=true then DC r e.t+1 else DC r e.t)+1:=by split<;>rfl
   rw[O];rfl
  rw[zD h,zD h,zD h]
  by_cases h2:x.t=e.t
  ·rw[zF h2,zF (by simpa using h2)];rfl
  rw[zD h2,zD (by simpa using h2)];rfl
theorem b0L{t}{L:List FY}(h:∀x∈L,x.t≠t):dD t (L.map zJ)=L.map zJ:=by
 unfold dD;rw[List.filter_eq_self];intro y N;obtain⟨x,O,rfl⟩:=aI.1 N;exact zH (h x O)
theorem a5H t:∀es:List FY,fG (es.map zJ)→(MR es t).map zJ=dD t (es.map zJ)
 |[],_=>rfl
 |x::r,hs=>by
  have N:=List.pairwise_cons.1 hs;have Z:=a5H t r N.2;unfold MR at Z ⊢;rw[TJ,a4y,dS];have hd:dD t (zJ x::r.map zJ)=if x.t=t then dD t (r.map zJ)else zJ x::dD t (r.map zJ):=by
   unfold dD;rw[List.filter_cons]
   by_cases g:x.t=t
   ·rw[zF g,zD (by simp[zJ,g])]
   rw[zD g,zF (by simp[zJ,g])]
  have a1:∀u:bT,aC u x.t=false→u≠x.t→True:=fun _ _ _=>trivial;rw[hd]
  by_cases h:aC x.t t=true
  ·have a0:x.t≠t:=fun g=>by rw[g,Ix.GR]at h;cases h
   rw[zF h,zF h,zD a0,←Z]
   split<;>rfl
  rw[zD h,zD h]
  by_cases g:x.t=t
  ·rw[zF g,zF (by simpa using g),b0L fun y O W=>by
    have:=N.1 (zJ y) (bC O);simp only[zJ]at this;rw[W,←g,Ix.GR]at this;cases this]
   rfl
  rw[zD g,zD (by simpa using g),b0L fun y O W=>by
   have h1:=N.1 (zJ y) (bC O);simp only[zJ]at h1;rw[W]at h1;exact h h1]
  rfl
theorem c1s es e:(QY es e).length≤es.length+1:=by
 unfold QY;have:=a1i es e.t;simp only[aK,aA,aJ,bM]
 split<;>omega
theorem b7a es t:(MR es t).length≤es.length:=by
 unfold MR
 split
 ·have:=a1i es t;simp only[aK,aA,aJ];omega
 exact aP _
theorem b0X{es e x}(h:x∈QY es e):x=e∨x∈es:=by
 unfold QY at h;rcases bY.1 h with g|g
 ·rcases bY.1 g with g|g
  ·exact .inr (aX g)
  exact .inl (eF.1 g)
 exact .inr (aO g)
theorem a8Z{es t x}(h:x∈MR es t):x∈es:=by
 unfold MR at h
 split at h
 ·rcases bY.1 h with g|g
  ·exact aX g
  exact aO g
 exact h
theorem a8Y{es t}(h:JB es t=true):DC es t<es.length:=by
 rcases Nat.lt_or_ge (DC es t) es.length with g|g
 ·exact g
 rw[a8Q rfl g]at h;cases h
theorem ZL{I es v}(h:FN I es v){l:List FY}(N:∀x∈l,x∈es):∀x∈l,(IB x).all fP=true:=fun x O=>by
 obtain⟨p,c,W,-⟩:=(h.2 x (N x O)).1;exact a7n W
theorem FN.nil{I}:FN I [] (.slice none 0 0):=⟨zS.nil,fun _ h=>by cases h⟩
theorem FN.len{I es v}(h:FN I es v):∃p c,v= .slice p es.length c∧es.length≤c:=let ⟨p,c,h,N,_⟩:=h.1;⟨p,c,h,N⟩
theorem b9F a b I:Pure aB 29 [zZ a,zZ b] I (.bool (aC a b)):=by
 refine bV ?_;refine zQ func29 fun w0 _=>?_;refine yU 3 ?_;intro _ _;refine yU 1 ?_;intro _ _;refine zK ?_ ?_<;>intro N O
 ·have W:=b9v (bne_iff_ne.1 N);refine AB ?_;rw[W];exact rT
 have W:=c0o (JR N);refine AB ?_;rw[W];exact rT
theorem c0L rb w es t (hl:es.length≤1000000) I (ac:I rb=some (yX 50 [w]))(hE:FN I es w):Pure aB 92 [ptr rb 0,zZ t] I (.tuple #[i64 (DC es t:Int),.bool (JB es t)]):=by
 refine bV ?_;obtain⟨p,c,rfl,_,hp⟩:=id hE.1;refine zQ func92 fun w0 _=>?_;refine yU 3 ?_;intro b1 _;refine yU 11 ?_;refine eU (ι:=Nat) (fun y=>y≤es.length∧∀x∈es.take y,aC x.t t=true) (fun y=>es.length-y) (fun y=>[(0,ptr rb 0),(3,ptr b1 0),(6,i64 (y:Int))]) (fun y=>_) (fun y=>[(b1,yX 54 [i64 t.1,i64 t.2])]) 0 ⟨bG _,fun x hx=>by simp at hx⟩ rT rfl rfl ?_;rintro y ⟨hy,a0⟩;refine zK ?_ ?_<;>intro ad a9
 ·have a6:y<es.length:=oM;obtain⟨x,N⟩:∃x,es[y]?=some x:=⟨_,BM a6⟩;obtain⟨_,eo,_,_,_,_,rfl,a7,a8⟩:=hp (zU a6);refine yU 4 ?_;refine bW [0] [] 11 kR ?_;have ae:=ac;have a5:=a7;refine zW (eo+y*5) ?_;refine yU 1 ?_;refine fH 7 rfl (BJ IZ EJ (dR a5) (a0Y a8 N)) ?_;refine zX (b9F x.t t _) ?_;refine DI ?_ ?_<;>intro a1
  ·have a2:aC x.t t=false:=by have h:=a1;simpa using h
   refine yU 2 ?_;refine Ej.b1A rfl ?_;refine yU 4 ?_;have O:DC es t=y:=a7j a0 (fun z hz=>by rw[N]at hz;cases hz;exact a2) hy;have a3:=b8D O N;refine bW [0] [] 22 kR ?_;refine yU 9 ?_;refine JA.split 37 rfl (fun W=>?_) (fun W=>?_)
   rotate_left
   ·have aa:=FQ W;omega
   have aa:=ED W;refine yU 5 ?_;refine JA.fix AO (fun Z=>?_);refine JA.tkG 14 8 37 true _ rfl Z rfl rfl W (FX (off':=eo+y*5) NI OV) ?_;refine yU 1 ?_;refine JA.fix AO (fun Z=>?_);refine JA.tkG 16 8 37 true _ rfl Z rfl rfl W (BJ IZ EJ (dR a7) (a0Y a8 N)) ?_;refine yU 1 ?_;refine JA.fix AO (fun Z=>?_);refine JA.tkG 18 8 37 true _ rfl Z rfl rfl W (b4D (kv:=b6j) (a:=x.t) (b:=t) rfl rfl rfl rfl rfl b4Y kR) ?_;refine AB ?_;rw[O,a3];exact rT
  have a2:aC x.t t=true:=by have h:=a1;simpa using h
  refine yU 8 ?_;refine bK (y+1) ⟨oM,c0z a0 N a2⟩ oM rT rfl rfl
 refine yU 6 ?_;have O:DC es t=y:=a7j a0 (fun x hx=>absurd (aH.1 hx).1 oM) hy;have a3:=a8Q O oM;refine bW [0] [] 22 kR ?_;refine yU 9 ?_;refine JA.split 37 rfl (fun a4=>?_) (fun a4=>?_)
 ·have ab:=ED a4;omega
 have ab:=FQ a4;refine AB ?_;rw[O,a3];exact rT
theorem a8f N w es t (W:es.length≤1000000) I (Z:FN I es w):yY aB 92 [ptr N 0,zZ t] I [(N,yX 50 [w])] (fun e _ H'=>e= .returned (.tuple #[i64 (DC es t:Int),.bool (JB es t)])∧H'=[(N,yX 50 [w])]):=
 Pure.borrow (Enters.of func92 dE rfl) fun J O hJ=>c0L N w es t W J (hJ (N,_) (.head _)) (Z.mono O)
theorem zS.from{α:Type}{f:α→List Value}{sz:Nat}(N:∀x,(f x).length=sz){I l a c}(h:zS f I l (.slice a l.length c)){j:Nat}(O:j≤l.length):zS f I (l.drop j) (.slice (a1y a c j sz) (l.length-j) (c-j)):=by
 have h1:=zS.cut N h O (aP _)
 rwa [aF (by rw[aJ];omega)]at h1
theorem a6D a b e:((([]:List Value)++a.flatMap IB)++IB e)++b.flatMap IB=(a++[e]++b).flatMap IB:=sI
theorem c1K(a b:List FY):(([]:List Value)++a.flatMap IB)++b.flatMap IB=(a++b).flatMap IB:=sI
theorem FN.put{I O es e w v}(h:FN I es w)(W:QX I e.fs e.v)(N:Le I O)(Z:zS IB O (QY es e) v):FN O (QY es e) v:=⟨Z,fun x hx=>by
 rcases b0X hx with rfl|g
 ·exact W.mono N
 exact(h.2 x g).mono N⟩
theorem FN.drop{I N es t w v}(h:FN I es w)(O:Le I N)(W:zS IB N (MR es t) v):FN N (MR es t) v:=⟨W,fun x Z=>(h.2 x (a8Z Z)).mono O⟩
theorem c4j rb w es e (hl:es.length≤1000000) I (O:FN I es w)(hr:QX I e.fs e.v):yY aB 99 [ptr rb 0,.agg (IB e).toArray] I [(rb,yX 50 [w])] (fun ev I' H'=>∃w',ev= .returned (.tuple #[])∧FN I' (QY es e) w'∧H'=[(rb,yX 50 [w'])]):=by
 have N:=O.1;obtain⟨p,c,rfl,_⟩:=O.len;obtain⟨_,_,aa,-,-⟩:=id hr.1;have a6:=a1i es e.t;have ah:(es.take (DC es e.t)).length=DC es e.t:=by rw[aA];omega
 refine zQ func99 fun w0 _=>?_;refine yU 3 ?_;intro _ _;refine yU 7 ?_;refine J.pull (Pull.s Pull.z) ?_;refine AP (a8f rb _ es e.t hl _ O) ?_;intro _ _ _ a0 ab;have O:=O.mono a0;have hr:=hr.mono a0;have N:=N.mono a0;obtain⟨h,rfl⟩:=ab;cases h;refine yU 20 ?_;refine cO (LJ (k:=DC es e.t) rfl rfl rfl NI OV rfl oM) ?_;refine dZ rfl (AQ (by':=47) (n:=0) (g:=none) (xs:=[]) [_,_] rfl rfl rfl rfl rfl NI (.inr ⟨_,NI⟩) kR OV a0M rfl rT rfl (eY IL (zS.take N a6) (ZL O (fun x hx=>aX hx))) oM ?_);intro _ ac;refine yU 8 ?_;intro _ _;refine dZ rfl (AQ (by':=47) [_,_,_] rfl rfl rfl rfl rfl NI (.inr ⟨_,NI⟩) kR OV a0M rfl ac rfl (Src.slice (yZ.at 0 rfl) rfl rfl (a7n aa)) oM ?_);intro _ a7;refine DI ?_ ?_<;>intro a1
 ·have a3:JB es e.t=true:=a1;have ad:=a8Y a3;have a4:DC es e.t+1≤es.length:=ad;have ae:(es.drop (DC es e.t+1)).length=es.length-(DC es e.t+1):=aJ;refine yU 14 ?_;refine cO (MI (j:=(DC es e.t+1)) rfl rfl rfl NI OV rfl oM oM) ?_;refine dZ rfl (AQ (by':=47) [_,_,_] rfl rfl rfl rfl rfl NI (.inr ⟨_,NI⟩) kR OV a0M rfl a7 rfl (eY IL (zS.from IL N (j:=DC es e.t+1) a4) (ZL O (fun x hx=>aO hx))) oM ?_);intro af a8;refine yU 4 ?_;refine dQ (dB (fQ (dB eX))) ?_;have W:es.take (DC es e.t)++[e]++es.drop (DC es e.t+1)=QY es e:=by unfold QY;rw[a3];rfl
  have Z:=(a6D (es.take (DC es e.t)) (es.drop (DC es e.t+1)) e).trans (zC (eG IB) W);refine fU (H':=gH 59 ((QY es e).flatMap IB) af++[(rb,_)]) (by rw[←Z];exact bP) ?_;refine fD IL dE (by rw[←Z];exact a8) (by rw[←W];simp only[aK,bM];omega) (fun I8 a2 a5=>?_);refine fV rfl rfl ?_;exact⟨_,rfl,O.put hr a2 a5,rfl⟩
 have a3:JB es e.t=false:=a1;have a4:=a6;have ae:(es.drop (DC es e.t)).length=es.length-DC es e.t:=aJ;refine yU 10 ?_;refine cO (MI (j:=(DC es e.t)) rfl rfl rfl NI OV rfl oM oM) ?_;refine dZ rfl (AQ (by':=47) [_,_,_] rfl rfl rfl rfl rfl NI (.inr ⟨_,NI⟩) kR OV a0M rfl a7 rfl (eY IL (zS.from IL N (j:=DC es e.t) a4) (ZL O (fun x hx=>aO hx))) oM ?_);intro ag a9;refine yU 4 ?_;refine dQ (dB (fQ (dB eX))) ?_;have W:es.take (DC es e.t)++[e]++es.drop (DC es e.t)=QY es e:=by unfold QY;rw[a3];rfl
 have Z:=(a6D (es.take (DC es e.t)) (es.drop (DC es e.t)) e).trans (zC (eG IB) W);refine fU (H':=gH 59 ((QY es e).flatMap IB) ag++[(rb,_)]) (by rw[←Z];exact bP) ?_;refine fD IL dE (by rw[←Z];exact a9) (by rw[←W];simp only[aK,bM];omega) (fun I8 a2 a5=>?_);refine fV rfl rfl ?_;exact⟨_,rfl,O.put hr a2 a5,rfl⟩
theorem c0A Z w es t (hl:es.length≤1000000) I (N:FN I es w):yY aB 44 [ptr Z 0,zZ t] I [(Z,yX 50 [w])] (fun ev I' H'=>∃w',ev= .returned (.tuple #[])∧FN I' (MR es t) w'∧H'=[(Z,yX 50 [w'])]):=by
 have O:=N.1;obtain⟨p,c,rfl,_⟩:=N.len;have a5:=a1i es t;have ac:(es.take (DC es t)).length=DC es t:=by rw[aA];omega
 refine zQ func44 fun w0 _=>?_;refine yU 3 ?_;intro _ _;refine yU 6 ?_;refine J.pull (Pull.s Pull.z) ?_;refine AP (a8f Z _ es t hl _ N) ?_;intro _ _ _ a0 a6;have N:=N.mono a0;have O:=O.mono a0;obtain⟨h,rfl⟩:=a6;cases h;refine DI ?_ ?_<;>intro a1
 ·have W:JB es t=true:=a1;have a7:=a8Y W;have a8:DC es t+1≤es.length:=a7;have ad:(es.drop (DC es t+1)).length=es.length-(DC es t+1):=aJ;refine yU 13 ?_;refine cO (LJ (k:=DC es t) rfl rfl rfl NI OV rfl oM) ?_;refine dZ rfl (AQ (by':=47) (n:=0) (g:=none) (xs:=[]) [_,_] rfl rfl rfl rfl rfl NI (.inr ⟨_,NI⟩) kR OV a0M rfl rT rfl (eY IL (zS.take O a5) (ZL N (fun x hx=>aX hx))) oM ?_);intro _ a9;refine yU 12 ?_;refine cO (MI (j:=(DC es t+1)) rfl rfl rfl NI OV rfl oM oM) ?_;refine dZ rfl (AQ (by':=47) [_,_] rfl rfl rfl rfl rfl NI (.inr ⟨_,NI⟩) kR OV a0M rfl a9 rfl (eY IL (zS.from IL O (j:=DC es t+1) a8) (ZL N (fun x hx=>aO hx))) oM ?_);intro g9 aa;refine yU 4 ?_;refine dQ (fQ (dB eX)) ?_;have a2:es.take (DC es t)++es.drop (DC es t+1)=MR es t:=by unfold MR;rw[W];rfl
  have a3:=(c1K (es.take (DC es t)) (es.drop (DC es t+1))).trans (zC (eG IB) a2);refine fU (H':=gH 59 ((MR es t).flatMap IB) g9++[(Z,_)]) (by rw[←a3];exact bP) ?_;refine fD IL dE (by rw[←a3];exact aa) (by rw[←a2];simp only[aK];omega) (fun _ a4 ab=>?_);refine fV rfl rfl ?_;exact⟨_,rfl,N.drop a4 ab,rfl⟩
 have W:JB es t=false:=a1;refine yU 1 ?_;refine dQ (fQ (dB Keeps.n)) ?_;refine fV rfl rfl ?_;exact⟨_,rfl,(show MR es t=es from by unfold MR;rw[W];rfl).symm▸N,rfl⟩
theorem b7B{α:Type}{f:α→List Value}{l:List α}{k x}(h:l[k]?=some x):(l.take (k+1)).flatMap f=(l.take k).flatMap f++f x:=by
 obtain⟨N,h⟩:=aH.1 h;rw[aT N,h,dV];simp
theorem a6E rb w es (hl:es.length≤1000000) I (a9:I rb=some (yX 50 [w]))(hE:FN I es w):yY aB 62 [ptr rb 0] I [] (fun e I' H'=>∃v,e= .returned v∧zS recC I' (es.map (·.t)) v∧H'=[]):=by
 obtain⟨p,c,rfl,_,hp⟩:=id hE.1;refine zQ func62 fun w0 _=>?_;refine yU 17 ?_;refine eU (ι:=Nat×Gs) (fun y=>y.1≤es.length∧BL w0.heap.size 2 (es.take y.1).length ((es.take y.1).flatMap fun x=>recC x.t) y.2) (fun y=>es.length-y.1) (fun y=>[(0,ptr rb 0),(3,gV (es.take y.1).length y.2),(4,i64 (y.1:Int))]) (fun y=>_) (fun y=>gH 54 ((es.take y.1).flatMap fun x=>recC x.t) y.2) (0,none) ⟨bG _,rfl,rfl⟩ rT rfl rfl ?_;rintro⟨y,g⟩ ⟨hy,O⟩;dsimp only at hy O ⊢;have aa:(es.take y).length=y:=by rw[aA];omega
 refine zK ?_ ?_<;>intro a4 a3
 ·have Z:y<es.length:=oM;obtain⟨x,N⟩:∃x,es[y]?=some x:=⟨_,BM Z⟩;obtain⟨_,eo,_,_,_,_,rfl,a5,a6⟩:=hp (zU Z);have a0:=b7B (f:=fun x:FY=>recC x.t) N;have a1:(es.take (y+1)).length=(es.take y).length+1:=by rw[aA,aA];omega
  refine zW (eo+y*5) ?_;refine yU 1 ?_;refine cO (BJ IZ EJ (yZ.LK a5) (a0Y a6 N)) ?_;refine yU 1 ?_;intro _ _;refine RD 15 [_] O ?_;intro g3 a7;refine yU 9 ?_;refine dQ (dB eX) ?_;refine bK (y+1,g3) ⟨dO,by dsimp only;rw[a1,a0];exact a7⟩ dO ⟨rfl,by dsimp only;rw[a1];rfl,rfl,trivial⟩ rfl (by dsimp only;rw[a0];rfl)
 refine yU 12 ?_;have W:es.take y=es:=aF oM;rw[W]at O ⊢;have a2:(es.map (·.t)).flatMap recC=es.flatMap fun x=>recC x.t:=List.flatMap_map _ recC _;refine fU (H':=gH 54 ((es.map (·.t)).flatMap recC) g++[]) (.of_eq (by rw[a2,fJ])) ?_;refine fD BR dE (by rw[a2];exact O) (by rw[aU]) (fun _ _ a8=>?_);refine zV ?_;exact⟨_,rfl,a8,rfl⟩
end Go.Proofs.YtekmeaoblpfnpaaGreatDoor
end
section
namespace Go.Proofs.YtekmeaoblpfnpaaGreatDoor
open _root_.Go.Proofs.Tryz
open Go Go.Sx
def rn (s:List UInt8):List UInt8:=(s.takeWhile aY).filter bZ
theorem b5k{c}(h:c.toNat=88∨c.toNat=120):aG c=88:=by
 rcases h with h|h
 ·rw[show c=88 from fK.1 (by rw[h];rfl)];rfl
 rw[show c=120 from fK.1 (by rw[h];rfl)];rfl
theorem b4q{c}(h:aN c=true):aG c=c:=(Ke.digit_ok h).2.2
theorem b7f{c}(h:aN c=true):bF c=c.toNat-48:=by
 have:=eH.1 h;unfold bF;rw[zD fun e=>by rw[e]at this;exact absurd this.2 dE]
theorem c6i{c}(h:(48≤c.toNat∧c.toNat≤57)∨c.toNat=88∨c.toNat=120):aY c=true∧bZ c=true:=by
 revert h;exact dM (p:=fun c=>(48≤c.toNat∧c.toNat≤57)∨c.toNat=88∨c.toNat=120→aY c=true∧bZ c=true) (by decide +kernel) c
theorem c2z{c}(h:c.toNat=32∨c.toNat=45):aY c=true∧bZ c=false:=by
 revert h;exact dM (p:=fun c=>c.toNat=32∨c.toNat=45→aY c=true∧bZ c=false) (by decide +kernel) c
theorem c5G{c}(h:¬((48≤c.toNat∧c.toNat≤57)∨c.toNat=88∨c.toNat=120∨c.toNat=32∨c.toNat=45)):aY c=false:=by
 revert h;exact dM (p:=fun c=>¬((48≤c.toNat∧c.toNat≤57)∨c.toNat=88∨c.toNat=120∨c.toNat=32∨c.toNat=45)→aY c=false) (by decide +kernel) c
theorem b9s s:∀c∈rn s,aN c=true∨c.toNat=88∨c.toNat=120:=fun c N=>by
 obtain⟨h1,h2⟩:=bU.1 N;have h3:aY c=true:=List.all_eq_true.1 (List.all_takeWhile (p:=aY)) c h1;revert h2 h3;exact dM (p:=fun d=>bZ d=true→aY d=true→aN d=true∨d.toNat=88∨d.toNat=120) (by decide +kernel) c
theorem c5l s:(rn s).length≤s.length:=FD (dN _ _) (List.takeWhile_prefix _).length_le
theorem a5A{s:List UInt8}{k c}(h:s[k]?=some c):(s.take (k+1)).filter bZ=(s.take k).filter bZ++(if bZ c then[c]else[]):=by
 obtain⟨N,O⟩:=aH.1 h;rw[aT N,O,dY];cases hn:bZ c<;>simp[hn]
theorem a3t{t}(h:∀c∈t,aN c=true∨c.toNat=88∨c.toNat=120):bQ (t.map aG)=bQ t:=by
 induction t with
 |nil=>rfl
 |cons c r O=>
  rw[dS,fZ,fZ,O fun d N=>h d (.tail _ N)];rcases h c (.head _)with e|e
  ·rw[b4q e]
  rw[b5k e];have:aN c=false:=by
   rcases N:aN c with _|_
   ·rfl
   have:=eH.1 N;omega
  rw[this];rfl
theorem TI{t}(h:bQ t=true):t.map aG=t:=Ke.b5Q h
theorem a2y{s:List UInt8}{j c}(O:j<9)(N:s[j]?=some c)(W:c.toNat=88∨c.toNat=120):bH (s.map aG)=false:=by
 have h1:((s.map aG).take 9)[j]?=some (aG c):=by rw[eP,zF O,fB,N];rfl
 have h2:bQ ((s.map aG).take 9)=false:=by
  refine a7b h1 ?_;rw[b5k W];decide
 unfold bH;rw[h2,Bool.and_false]
theorem a8L s (a5:12≤s.length)(hs:s.length≤1000000000)(hd:bQ (s.take 12)=true) I:Pure aB 120 [str s] I (u8 (Ke.check s)):=by
 refine zQ func120 fun w0 _=>?_;refine yU 17 ?_;refine eU (ι:=Nat) (fun j=>j≤12) (fun j=>12-j) (fun j=>[(0,str s),(3,i64 ((fA 0 ((s.take 12).take j):Nat):Int)),(4,i64 (j:Int))]) (fun j=>I) (fun j=>[]) 0 (bG _) rT rfl rfl ?_;intro j _;have a2:=a7c ((s.take 12).take j) 0;rw[aA,aA]at a2;refine zK ?_ ?_<;>intro a3 a0
 ·have a4:j<s.length:=oM;obtain⟨c,N⟩:∃c,s[j]?=some c:=⟨_,BM a4⟩;have O:(s.take 12)[j]?=some c:=by rw[eP,zF oM];exact N
  have hc:=a8j hd O;refine yU 8 ?_;refine cO (CB rfl rfl rfl BQ oM N) ?_;refine cO (RI rfl rfl rfl (w8 oM)) ?_;refine yU 1 ?_;refine aW 14 (i64 ((c.toNat-48:Nat):Int)) rfl (zC i64 ((IU oM).trans oM)) ?_;refine yU 8 ?_;refine aW 16 (i64 ((j % 2:Nat):Int)) rfl rfl ?_;refine zK ?_ ?_<;>intro W a1
  ·have h2:j % 2=1:=by have h:=CO W;omega
   refine yU 19 ?_;refine bK (j+1) oM oM ⟨rfl,by rw[a3i O,h2];exact zC (fun z=>some (dF .i64 z)) oM,rfl,trivial⟩ rfl rfl
  have h2:j % 2=0:=by have h:=CW W;omega
  refine yU 15 ?_;refine bK (j+1) oM oM ⟨rfl,by rw[a3i O,h2];exact zC (fun z=>some (dF .i64 z)) oM,rfl,trivial⟩ rfl rfl
 have Z:(s.take 12).take j=s.take 12:=aF (by rw[aA];omega);refine yU 9 ?_;refine aW 24 (i64 ((fA 0 (s.take 12) % 10:Nat):Int)) rfl (by rw[Z];rfl) ?_;refine yU 1 ?_;refine aW 25 (i64 ((10-fA 0 (s.take 12) % 10:Nat):Int)) rfl (zC i64 oM) ?_;refine yU 1 ?_;refine aW 26 (i64 (((10-fA 0 (s.take 12) % 10) % 10:Nat):Int)) rfl rfl ?_;refine yU 1 ?_;refine aW 27 (i64 ((48+(10-fA 0 (s.take 12) % 10) % 10:Nat):Int)) rfl (zC i64 oM) ?_;refine yU 1 ?_;refine aW 28 (u8 (Ke.check s)) rfl (zC (dF .u8) (a0A oM)) ?_;refine zV ?_;exact rT
theorem c0K(a b:Nat):((a:Int) == (b:Int))=(a == b):=by
 rw[Bool.eq_iff_iff,beq_iff_eq,beq_iff_eq];omega
theorem c0M{s:List UInt8}{j c}(Z:j≤10)(N:(s.take (min j 9)).all aN=true)(O:s[j]?=some c)(W:aN c=true):(s.take (min (j+1) 9)).all aN=true:=by
 rcases Nat.lt_or_ge j 9 with h|h
 ·rw[dK oM]at N ⊢;exact b7e N O W
 rw[aS oM]at N ⊢;exact N
theorem c4S s (ac:s.length=10)(hx:∀c∈s,aN c=true∨c.toNat=88∨c.toNat=120) I:Pure aB 119 [str s] I (.bool (bH (s.map aG))):=by
 refine zQ func119 fun w0 _=>?_;refine yU 17 ?_;refine eU (ι:=Nat) (fun j=>j≤10∧(s.take (min j 9)).all aN=true) (fun j=>10-j) (fun j=>[(0,str s),(3,i64 ((Ke.ZT 0 ((s.map aG).take j):Nat):Int)),(4,i64 (j:Int))]) (fun j=>I) (fun j=>[]) 0 ⟨bG _,rfl⟩ rT rfl rfl ?_;rintro j ⟨hj,N⟩;have ad:=a7e ((s.map aG).take j) 0;rw[aA,aU,ac]at ad;refine zK ?_ ?_<;>intro ae a8
 ·have af:j<s.length:=oM;obtain⟨c,O⟩:∃c,s[j]?=some c:=⟨_,BM af⟩;have W:(s.map aG)[j]?=some (aG c):=by rw[fB,O];rfl
  have a6:=hx c (CX O);have ai:=c.toNat_lt;have aj:48≤c.toNat:=a6.elim (fun h=>(eH.1 h).1) (fun h=>oM);have hm:(10-j)*bF (aG c)≤10*255:=Nat.mul_le_mul oM (b2w _);refine yU 8 ?_;refine cO (CB rfl rfl rfl BQ oM O) ?_;refine yU 1 ?_;refine aW 13 (i64 (c.toNat:Int)) rfl (zC i64 (IU oM)) ?_;refine yU 1 ?_;refine aW 14 (i64 ((c.toNat-48:Nat):Int)) rfl (zC i64 oM) ?_;refine yU 8 ?_;refine cO (CB rfl rfl rfl BQ oM O) ?_;refine FM ?_ ?_<;>intro Z
  ·have ag:=CO Z;refine yU 9 ?_;have hX:c.toNat=88∨c.toNat=120:=oM;have a7:bF (aG c)=10:=by rw[b5k hX];rfl
   refine zK ?_ ?_<;>intro a0 a9
   ·have a1:=ED a0;refine zV ?_;rw[a2y oM O hX];exact rT
   have a1:=FQ a0;refine yU 6 ?_;refine aW 29 (i64 ((10-j:Nat):Int)) rfl (zC i64 oM) ?_;refine yU 1 ?_;refine aW 30 (i64 ((bF (aG c):Nat):Int)) rfl (zC i64 oM) ?_;refine cO (WR rfl rfl rfl (IU (by rw[←aV];omega))) ?_;refine aW 31 (i64 (((10-j)*bF (aG c):Nat):Int)) rfl (zC i64 (aV _ _).symm) ?_;refine yU 10 ?_;refine bK (j+1) ⟨oM,by rw[aS oM]at N ⊢;exact N⟩ oM ⟨rfl,by rw[WV W];exact zC (fun z=>some (dF .i64 z)) oM,rfl,trivial⟩ rfl rfl
  have ag:=CW Z;refine yU 2 ?_;refine J.zg (CB rfl rfl rfl BQ oM O) ?_;refine zK ?_ ?_<;>intro a2 aa
  ·have ah:=CO a2;refine yU 1 ?_;have hX:c.toNat=88∨c.toNat=120:=oM;have a7:bF (aG c)=10:=by rw[b5k hX];rfl
   refine zK ?_ ?_<;>intro a3 ab
   ·have a1:=ED a3;refine zV ?_;rw[a2y oM O hX];exact rT
   have a1:=FQ a3;refine yU 6 ?_;refine aW 29 (i64 ((10-j:Nat):Int)) rfl (zC i64 oM) ?_;refine yU 1 ?_;refine aW 30 (i64 ((bF (aG c):Nat):Int)) rfl (zC i64 oM) ?_;refine cO (WR rfl rfl rfl (IU (by rw[←aV];omega))) ?_;refine aW 31 (i64 (((10-j)*bF (aG c):Nat):Int)) rfl (zC i64 (aV _ _).symm) ?_;refine yU 10 ?_;refine bK (j+1) ⟨oM,by rw[aS oM]at N ⊢;exact N⟩ oM ⟨rfl,by rw[WV W];exact zC (fun z=>some (dF .i64 z)) oM,rfl,trivial⟩ rfl rfl
  have ah:=CW a2;have a4:aN c=true:=a6.resolve_right oM;have a7:bF (aG c)=c.toNat-48:=by rw[b4q a4];exact b7f a4
  refine yU 6 ?_;refine aW 29 (i64 ((10-j:Nat):Int)) rfl (zC i64 oM) ?_;refine yU 1 ?_;refine aW 30 (i64 ((bF (aG c):Nat):Int)) rfl (zC i64 oM) ?_;refine cO (WR rfl rfl rfl (IU (by rw[←aV];omega))) ?_;refine aW 31 (i64 (((10-j)*bF (aG c):Nat):Int)) rfl (zC i64 (aV _ _).symm) ?_;refine yU 10 ?_;refine bK (j+1) ⟨oM,by exact c0M hj N O a4⟩ oM ⟨rfl,by rw[WV W];exact zC (fun z=>some (dF .i64 z)) oM,rfl,trivial⟩ rfl rfl
 have a5:(s.map aG).take j=s.map aG:=aF (by rw[aU];omega);refine yU 9 ?_;refine aW 34 (i64 ((Ke.ZT 0 (s.map aG) % 11:Nat):Int)) rfl (by rw[a5];rfl) ?_;refine zV ?_;have hr:bH (s.map aG)=(Ke.ZT 0 (s.map aG) % 11 == 0):=by
  unfold bH;rw[←gG,TI (show bQ (s.take 9)=true by rw[aS oM]at N;exact N),show bQ (s.take 9)=true by rw[aS oM]at N;exact N,Bool.and_true]
 rw[hr];exact⟨zC (fun b=>Ending.returned (.bool b)) (c0K _ _),rfl,rfl⟩
theorem c3u{s j}(O:¬j<s.length)(N:(s.take j).all aY=true):(s.take j).filter bZ=rn s:=by
 rw[aF oM]at N ⊢;unfold rn;rw[a0X N]
theorem c5e{s j c}(N:(s.take j).all aY=true)(O:s[j]?=some c)(W:aY c=false):(s.take j).filter bZ=rn s:=by
 unfold rn;rw[a6y N O W]
theorem b1u s (hs : s.length ≤ 100000000) I : Pure Tryz.prog 67 [str s] I (.tuple #[str (Ke.OT s).1, .bool (Ke.OT s).2]) := by
 refine yY.toPure ?_
 have be := c5l s
 have ab := b9s s
 have ae : Ke.OT s = Ke.a2i ((rn s).map Ke.up) := rfl
 have ac : ((rn s).map Ke.up).length = (rn s).length := List.length_map _
 refine zQ func67 fun w0 _ => ?_
 refine yU 11 ?_
 refine Cj.join (ι := Unit) (fun _y => True) (fun _y => [(4, str (rn s))]) (fun _y => I) (fun _y => []) ?_ (fun N => ?_)
 ·rintro _ -
  refine Cj.join (ι := Unit) (fun _y => ¬ (((rn s).map Ke.up).length = 10 ∧ Ke.MP ((rn s).map Ke.up) = true)) (fun _y => [(4, str (rn s))]) (fun _y => I) (fun _y => []) ?_ (fun N => ?_)
  ·rintro _ a1
   refine zX (a5G (rn s) (by omega) _) ?_
   refine yU 3 ?_
   refine Cj.join (ι := Unit) (fun _y => ¬ (((rn s).map Ke.up).length = 13 ∧ Ke.digits ((rn s).map Ke.up) = true ∧ Ke.check ((rn s).map Ke.up) = ((rn s).map Ke.up).getD 12 0)) (fun _y => [(4, str (rn s))]) (fun _y => I) (fun _y => []) ?_ (fun N => ?_)
   ·rintro _ W
    refine zV ?_
    have he : Ke.OT s = ([], false) := by rw [ae]; unfold Ke.a2i; rw [if_neg a1, if_neg W]
    rw [he]
    exact ⟨rfl, rfl⟩
   refine yU 1 ?_
   refine Cj.EX [] [] 13 (by kernel_rfl) ?_
   refine yU 4 ?_
   refine JA.split 63 rfl (fun af => ?_) (fun af => ?_)
   rotate_left
   ·have W : ¬ (((rn s).map Ke.up).length = 13 ∧ Ke.digits ((rn s).map Ke.up) = true ∧ Ke.check ((rn s).map Ke.up) = ((rn s).map Ke.up).getD 12 0) := fun e => CW af (by rw [← ac, e.1]; rfl)
    refine yU 13 ?_
    exact N () _ _ _ W ⟨rfl, trivial⟩ rfl rfl
   have b0 : (rn s).length = 13 := by have h := CO af; omega
   refine yU 3 ?_
   refine JA.split 66 rfl (fun ad => ?_) (fun ad => ?_)
   rotate_left
   ·have W : ¬ (((rn s).map Ke.up).length = 13 ∧ Ke.digits ((rn s).map Ke.up) = true ∧ Ke.check ((rn s).map Ke.up) = ((rn s).map Ke.up).getD 12 0) := fun e => Bool.noConfusion (((a3t ab).symm.trans e.2.1).symm.trans ad)
    refine yU 10 ?_
    exact N () _ _ _ W ⟨rfl, trivial⟩ rfl rfl
   have a2 : Ke.digits (rn s) = true := ad
   have av : Ke.digits ((rn s).take 12) = true := List.all_eq_true.2 fun c hc => List.all_eq_true.1 a2 c (List.mem_of_mem_take hc)
   obtain ⟨d, ag⟩ : ∃ c, (rn s)[12]? = some c := ⟨_, BM (by omega)⟩
   have ap : ((rn s).map Ke.up).getD 12 0 = d := by rw [TI a2, List.getD, ag]; rfl
   refine yU 2 ?_
   refine JA.fix AO (fun fx1 => ?_)
   refine JA.tkG 10 6 66 true _ rfl fx1 rfl rfl ad (CB rfl rfl rfl BQ (by omega) ag) ?_
   refine zX (a8L (rn s) (by omega) (by omega) av _) ?_
   refine zK (fun ah aw => ?_) (fun ah aw => ?_)
   ·have b1 : Ke.check ((rn s).map Ke.up) = ((rn s).map Ke.up).getD 12 0 := by have h := CO ah; rw [ap, TI a2]; exact UInt8.toNat_inj.1 (by omega)
    refine zV ?_
    have he : Ke.OT s = (rn s, true) := by rw [ae]; unfold Ke.a2i; rw [if_neg a1, if_pos ⟨ac.trans b0, (a3t ab).trans a2, b1⟩, TI a2]
    rw [he]
    exact ⟨rfl, rfl⟩
   ·have W : ¬ (((rn s).map Ke.up).length = 13 ∧ Ke.digits ((rn s).map Ke.up) = true ∧ Ke.check ((rn s).map Ke.up) = ((rn s).map Ke.up).getD 12 0) := fun e => CW ah (by have h := e.2.2; rw [ap, TI a2] at h; rw [h])
    refine yU 1 ?_
    exact N () _ _ _ W ⟨rfl, trivial⟩ rfl rfl
  refine zK (fun ai ax => ?_) (fun ai ax => ?_)
  ·have aq : (rn s).length = 10 := by have h := CO ai; omega
   refine zX (c4S (rn s) aq ab _) ?_
   refine DI (fun aj => ?_) (fun aj => ?_)
   ·have ar : Ke.MP ((rn s).map Ke.up) = true := aj
    have au : Ke.digits ((rn s).take 9) = true := by rw [← a3t (fun c hc => ab c (List.mem_of_mem_take hc)), List.map_take]; exact (Bool.and_eq_true_iff.1 ar).2
    have ay : ((rn s).map Ke.up).take 9 = (rn s).take 9 := by rw [← List.map_take, TI au]
    have al := a9b (b := []) au (by rw [List.length_take]; omega)
    rw [List.append_nil] at al
    refine yU 3 ?_
    refine J.z (CP (p := 0) (q := 9) rfl rfl BQ rfl ⟨_, rfl⟩ (by omega) (by omega)) ?_
    refine J.ev 50 (str ((rn s).take 9)) rfl (by rw [List.drop_zero]) ?_
    refine J.z (AZ rfl rfl rfl (by first | omega | (simp only [List.length_append]; omega) | (simp; omega))) ?_
    refine zX (a8L _ (by simp; omega) (by simp; omega) al _) ?_
    refine yU 1 ?_
    intro _ _
    refine J.z (JD [Ke.check ([57, 55, 56] ++ (rn s).take 9)] rfl rfl rfl IJ BQ UZ (yZ.at 0 rfl) rfl) ?_
    refine J.z (AZ rfl rfl rfl (by first | omega | (simp only [List.length_append]; omega) | (simp; omega))) ?_
    refine AB ?_
    have he : Ke.OT s = ([57, 55, 56] ++ (rn s).take 9 ++ [Ke.check ([57, 55, 56] ++ (rn s).take 9)], true) := by rw [ae]; unfold Ke.a2i; rw [if_pos ⟨ac.trans aq, ar⟩, ay]
    rw [he]
    exact ⟨rfl, rfl⟩
   have a1 : ¬ (((rn s).map Ke.up).length = 10 ∧ Ke.MP ((rn s).map Ke.up) = true) := fun e => Bool.noConfusion (e.2.symm.trans aj)
   refine yU 1 ?_
   exact N () _ _ _ a1 ⟨rfl, trivial⟩ rfl rfl
  have a1 : ¬ (((rn s).map Ke.up).length = 10 ∧ Ke.MP ((rn s).map Ke.up) = true) := fun e => CW ai (by rw [← ac, e.1]; rfl)
  refine yU 1 ?_
  exact N () _ _ _ a1 ⟨rfl, trivial⟩ rfl rfl
 refine yU 6 ?_
 refine Cj.loop (ι := Nat) (fun j => j ≤ s.length ∧ (s.take j).all Ke.okb = true) (fun j => s.length - j) (fun j => [(0, str s), (4, str ((s.take j).filter Ke.nb)), (5, i64 (j : Int))]) (fun j => _) (fun j => []) 0 ⟨Nat.zero_le _, rfl⟩ ⟨rfl, rfl, rfl, trivial⟩ rfl rfl ?_
 rintro j ⟨hj, a0⟩
 have b2 := List.length_filter_le Ke.nb (s.take j)
 rw [List.length_take, Nat.min_eq_left hj] at b2
 refine zK (fun az an => ?_) (fun az an => ?_)
 ·have b3 : j < s.length := by omega
  obtain ⟨c, O⟩ : ∃ c, s[j]? = some c := ⟨_, BM b3⟩
  refine yU 8 ?_
  refine J.z (CB rfl rfl rfl BQ (by omega) O) ?_
  refine yU 3 ?_
  refine Cj.join (ι := Bool) (fun y => (y = true → ((48 ≤ (c.toNat : Int) ∧ (c.toNat : Int) ≤ 57) ∨ (c.toNat : Int) = 88 ∨ (c.toNat : Int) = 120)) ∧ (y = false → ¬ ((48 ≤ (c.toNat : Int) ∧ (c.toNat : Int) ≤ 57) ∨ (c.toNat : Int) = 88 ∨ (c.toNat : Int) = 120))) (fun y => [(0, str s), (4, str ((s.take j).filter Ke.nb)), (5, i64 (j : Int)), (6, u8 c), (31, .bool y)]) (fun y => I) (fun y => []) ?_ (fun N => ?_)
  ·rintro y ⟨b4, b8⟩
   refine DI (fun a3 => ?_) (fun a3 => ?_)
   ·have b9 := b4 a3
    have hk := c6i (c := c) (by omega)
    refine yU 4 ?_
    intro _ _
    refine J.z (JD [c] rfl rfl rfl IJ BQ UZ (yZ.at 0 rfl) rfl) ?_
    refine J.z (AZ rfl rfl rfl (by first | omega | (simp only [List.length_append]; omega) | (simp; omega))) ?_
    refine yU 4 ?_
    have Z := a5A O
    rw [hk.2, if_pos rfl] at Z
    refine yU 5 ?_
    refine Ej.keep (Keeps.d Keeps.n) ?_
    refine Ej.round (j + 1) ⟨by omega, a1L a0 O hk.1⟩ (by omega) ⟨rfl, by rw [Z]; rfl, rfl, trivial⟩ rfl rfl
   have b9 := b8 a3
   refine FM (fun a4 => ?_) (fun a4 => ?_)
   ·have ba := bne_iff_ne.1 a4
    refine zK (fun a5 ao => ?_) (fun a5 ao => ?_)
    ·have bb := bne_iff_ne.1 a5
     have a6 := c5e a0 O (c5G (by omega))
     rw [a6]
     refine yU 1 ?_
     refine Ej.b1A rfl ?_
     refine yU 3 ?_
     exact N () _ _ _ trivial ⟨rfl, trivial⟩ rfl rfl
    have bb : (c.toNat : Int) = 45 := by have h := a5; rw [bne_eq_false_iff_eq] at h; exact h
    refine yU 3 ?_
    have hk := c2z (c := c) (by omega)
    have Z := a5A O
    rw [hk.2, if_neg (by decide), List.append_nil] at Z
    refine yU 5 ?_
    refine Ej.round (j + 1) ⟨by omega, a1L a0 O hk.1⟩ (by omega) ⟨rfl, by rw [Z]; rfl, rfl, trivial⟩ rfl rfl
   have ba : (c.toNat : Int) = 32 := by have h := a4; rw [bne_eq_false_iff_eq] at h; exact h
   refine yU 9 ?_
   have hk := c2z (c := c) (by omega)
   have Z := a5A O
   rw [hk.2, if_neg (by decide), List.append_nil] at Z
   refine yU 5 ?_
   refine Ej.round (j + 1) ⟨by omega, a1L a0 O hk.1⟩ (by omega) ⟨rfl, by rw [Z]; rfl, rfl, trivial⟩ rfl rfl
  refine FM (fun a7 => ?_) (fun a7 => ?_)
  ·have bc := ED a7
   refine FM (fun a8 => ?_) (fun a8 => ?_)
   ·have bd := ED a8
    refine yU 8 ?_
    exact N _ _ _ _ ⟨fun h => by first | omega | (simp at h; omega) | (cases h; done), fun h => by first | omega | (simp at h; omega) | (cases h; done)⟩ ⟨rfl, rfl, rfl, rfl, rfl, trivial⟩ rfl rfl
   have bd := FQ a8
   refine FM (fun a9 => ?_) (fun a9 => ?_)
   ·have am := CO a9
    refine yU 4 ?_
    exact N _ _ _ _ ⟨fun h => by first | omega | (simp at h; omega) | (cases h; done), fun h => by first | omega | (simp at h; omega) | (cases h; done)⟩ ⟨rfl, rfl, rfl, rfl, rfl, trivial⟩ rfl rfl
   have am := CW a9
   refine yU 4 ?_
   exact N _ _ _ _ ⟨fun h => by first | omega | (simp at h; omega) | (cases h; done), fun h => by first | omega | (simp at h; omega) | (cases h; done)⟩ ⟨rfl, rfl, rfl, rfl, rfl, trivial⟩ rfl rfl
  have bc := FQ a7
  refine FM (fun aa => ?_) (fun aa => ?_)
  ·have am := CO aa
   refine yU 4 ?_
   exact N _ _ _ _ ⟨fun h => by first | omega | (simp at h; omega) | (cases h; done), fun h => by first | omega | (simp at h; omega) | (cases h; done)⟩ ⟨rfl, rfl, rfl, rfl, rfl, trivial⟩ rfl rfl
  have am := CW aa
  refine yU 4 ?_
  exact N _ _ _ _ ⟨fun h => by first | omega | (simp at h; omega) | (cases h; done), fun h => by first | omega | (simp at h; omega) | (cases h; done)⟩ ⟨rfl, rfl, rfl, rfl, rfl, trivial⟩ rfl rfl
 have a6 := c3u (s := s) (j := j) (by omega) a0
 rw [a6]
 refine yU 4 ?_
 exact N () _ _ _ trivial ⟨rfl, trivial⟩ rfl rfl
end Go.Proofs.YtekmeaoblpfnpaaGreatDoor
end
namespace Ke
open Go.Lib (decodeL decodeN)
def opens (t:Bs):Prop:=t=[]∨∃b r,t=b::r∧b.toNat / 64≠2
theorem TU{b r}(h:b.toNat / 64≠2):opens (b::r):= .inr ⟨b,r,rfl,h⟩
theorem a8K:opens []:= .inl rfl
theorem a9e{s t}(h:opens s)(N:s≠[]):opens (s++t):=by
 rcases h with h|⟨b,r,rfl,h⟩
 ·exact absurd h N
 exact .inr ⟨b,r++t,rfl,h⟩
theorem b5c{s t}(h:opens s)(N:opens t):opens (s++t):=by grind [a9e]
theorem a4l l t (hl : l ≠ []) (ht : opens t) : decodeL (l ++ t) = decodeL l := by
  rw [Go.Lib.decodeL_N, Go.Lib.decodeL_N]
  rcases ht with rfl | ⟨b, r, rfl, hb⟩
  · rw [List.append_nil]
  rcases l with _ | ⟨a0, _ | ⟨a1, _ | ⟨a2, _ | ⟨a3, l⟩⟩⟩⟩
  · exact absurd rfl hl
  all_goals
    simp only [List.cons_append, List.nil_append, List.length_cons, List.length_nil, List.length_append, List.getD_cons_zero, List.getD_cons_succ, List.getD_nil]
    unfold decodeN
    first
      | (have e1 : (0 + 1 < 0 + 1) = False := by simp
         simp [hb, Nat.lt_irrefl])
      | (simp [hb, Nat.lt_irrefl]; done)
      | skip
theorem a4p:∀(n:Nat) (s t:Bs),s.length≤n→opens t→runes (s++t)=runes s++runes t
 |_,[],t,_,_=>by simp[b7n]
 |0,a::r,t,h,_=>by simp at h
 |n+1,a::r,t,h,ht=>by
  have N:a::r≠[]:=sI;have W:=Go.Lib.decodeL_width (a::r);have O:=Go.Lib.decodeL_le (a::r) N;rw[UU (s:=(a::r)++t) sI,UU N,a4l _ _ N ht,List.drop_append_of_le_length O,a4p n _ t (by simp only[aJ];simp only[aQ]at h;simp only[aQ];omega) ht];rfl
theorem a8s s t (h:opens t):runes (s++t)=runes s++runes t:=a4p _ s t (aP _) h
theorem b2G{c} r (h:c.toNat<128):runes (c::r)=c.toNat::runes r:=by
 rw[UU sI,Go.Lib.decodeL_ascii c r h];rfl
theorem toByte{n}(h:n<256):(aZ n).toNat=n:=by simp;omega
theorem enc1{c}(h:c<128):enc c=[aZ c]:=by
 unfold enc;rw[zF h]
theorem enc2{c}(h1:128≤c)(h:c<2048):enc c=[aZ (192+c / 64),aZ (128+c % 64)]:=by
 unfold enc;rw[zD oM,zF h]
theorem enc3{c}(h1:2048≤c)(h:PO c):enc c=[aZ (224+c / 4096),aZ (128+c / 64 % 64),aZ (128+c % 64)]:=by grind [PO,enc]
theorem a0h{c}(h:PO c):opens (enc c)∧enc c≠[]:=by
 by_cases h1:c<128
 ·rw[enc1 h1];exact⟨TU (by rw[toByte oM];omega),sI⟩
 by_cases h2:c<2048
 ·rw[enc2 oM h2];exact⟨TU (by rw[toByte oM];omega),sI⟩
 rw[enc3 oM h];unfold PO at h;exact⟨TU (by rw[toByte oM];omega),sI⟩
theorem a4v{c}(h:PO c):decodeL (enc c)=(c,(enc c).length):=by
 rw[Go.Lib.decodeL_N]
 by_cases h1:c<128
 ·rw[enc1 h1];simp only[aQ,dL,cZ,dA,dU];rw[toByte oM];unfold decodeN;rw[zF h1]
 by_cases h2:c<2048
 ·rw[enc2 oM h2];simp only[aQ,dL,cZ,dA,dU];rw[toByte oM,toByte oM];unfold decodeN;rw[zD oM,zF ⟨oM,oM,oM⟩,zF oM];refine fC ?_ rfl;show _=c;simp only;omega
 rw[enc3 oM h];unfold PO at h;simp only[aQ,dL,cZ,dA,dU];rw[toByte oM,toByte oM,toByte oM];unfold decodeN;rw[zD oM,zD oM,zF ⟨oM,⟨oM,oM⟩,oM,oM⟩,zF ⟨oM,oM⟩];refine fC ?_ rfl;show _=c;simp only;omega
theorem a8u{c}(h:PO c):runes (enc c)=[c]:=by
 rw[UU (a0h h).2,a4v h,List.drop_eq_nil_of_le (aP _)];rfl
def encs (l:List Nat):Bs:=l.flatMap enc
theorem a6I:∀(l:List Nat),(∀c∈l,PO c)→opens (encs l)
 |[],_=>a8K
 |c::_r,h=>a9e (a0h (h c (.head _))).1 (a0h (h c (.head _))).2
theorem a6f:∀(l:List Nat),(∀c∈l,PO c)→runes (encs l)=l
 |[],_=>rfl
 |c::r,h=>by
  show runes (enc c++encs r)=_;rw[a8s _ _ (a6I r fun d N=>h d (.tail _ N)),a8u (h c (.head _)),a6f r fun d N=>h d (.tail _ N)];rfl
end Ke
namespace Ke
