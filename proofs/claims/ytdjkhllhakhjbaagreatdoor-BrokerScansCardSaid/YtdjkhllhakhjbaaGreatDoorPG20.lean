/-
  Own texts on the laws of the seat, joined: the logic, and contracts of functions. Conditions: none.
-/
import Derived.Test.YtdjkhllhakhjbaaGreatDoorNmG
import Derived.Test.YtdjkhllhakhjbaaGreatDoorPG19
set_option linter.all false
set_option maxRecDepth 100000
set_option maxHeartbeats 40000000
open Go.Sx.HSub renaming c -> aA,n -> aF
open Go.Sx.Le renaming refl -> aB,trans -> aC
open Go.Sx.CSub renaming n -> aG
open Go.Sx.Keeps renaming d -> aH,n -> bF,r -> fV,k -> gZ
open List renaming length_map -> aI,not_mem_nil -> aN,mem_cons -> aO,length_append -> aS,pairwise_singleton -> aV,perm_append_comm -> bK,map_append -> bM,mem_filter -> bP,take_of_length_le -> bY,length_cons -> cZ,nodup_iff_pairwise_ne -> dA,getElem?_eq_some_iff -> dF,mem_map -> dG,take_add_one -> dH,length_take -> dJ,mem_map_of_mem -> dM,mem_singleton -> dP,pairwise_map -> dQ,filter_cons_of_neg -> dU,filter_cons_of_pos -> dV,append_nil -> dW,find?_cons_of_pos -> dY,find?_cons_of_neg -> dZ,map_take -> eP,map_cons -> eU,map_singleton -> eY,flatMap_map -> fF,mem_append -> fJ,lt_irrefl -> gJ,all_cons -> gK,map_nil -> gX,all_nil -> gY
open Go.Sx.EW renaming c -> aJ,z -> aQ,s -> aW
open Go.Sx.J renaming z -> aK,op -> bU
open Go.Sx.KP renaming part -> aP,none -> bV
open Prod renaming fst -> aT,snd -> bT
open Go.Sx.Ej renaming a1R -> aU,seq -> bI,FM -> eX,round -> fE,persist -> fM,pull -> fQ,keep -> fU,perm -> gB
open Go.Sx.DZ renaming z -> aX,s -> bZ
open Go.Sx.Cj renaming ret -> aY,region -> bH,seq -> dI,block -> dK,JD -> fK,pull -> fP,perm -> fZ
open Go.Sx.OU renaming mark -> aZ,keep -> bC,a4h -> bD
open Go.Sx.JA renaming tk -> bG,all -> bW,fix -> gW
open Cq renaming parse -> bJ
open Go.Proofs.YtdjkhllhakhjbaaGreatDoor.Fv renaming f -> bQ
open Go.Sx.IC renaming none -> cO,agg -> eH,one -> fD
open Nat renaming le_refl -> dB,zero_le -> dD,min_le_left -> fH
open Go.Sx.Pull renaming s -> dL,z -> dS
open Go.Sx.Src renaming slice -> dN
open Bk renaming c0D -> dR,a3Y -> eF,c4K -> fB,MB -> fO,ans -> gU
open Go.Proofs.Tryz renaming prog -> dX
open Ke renaming KG -> eG
open Bool renaming false_ne_true -> fA,and_true -> gQ
open Go.Sx.yR renaming ZU -> fC
open Go renaming Value -> fG
open Go.Value renaming oneCell' -> gG
open Go.Sx.zN renaming of -> gI
namespace Go.Proofs.YtdjkhllhakhjbaaGreatDoor
open _root_.Go.Proofs.Tryz
open Go Go.Sx
def QM (p:Cq.Qn×Nat×Nat) (os:List (Option Bk.Lb)) (S:List FE):Prop:=∀i x,S[i]?=some x→∃o,os[i]?=some o∧gU p o i (x.1.l.map bQ) x.2
theorem QM.nil{p os}:QM p os []:=fun i x h=>by simp at h
theorem QM.snoc{p os S}(h:QM p os S){o x e}(G:os[S.length]?=some o)(N:gU p o S.length (x.l.map bQ) e):QM p os (S++[(x,e)]):=fun i y A=>by
 rcases Nat.lt_or_ge i S.length with g|g
 ·rw[List.getElem?_append_left g]at A;exact h i y A
 rw[List.getElem?_append_right g]at A;have O:i=S.length:=by
  rcases Nat.lt_or_ge 0 (i-S.length)with k|k
  ·rw[List.getElem?_eq_none (by rw[List.length_singleton];omega)]at A;cases A
  omega
 subst O;rw[Nat.sub_self]at A;cases A;exact⟨o,G,N⟩
theorem QM.bound{p}{os:List (Option Bk.Lb)}(A:∀b,some b∈os→b.L.length≤100000):∀{S:List FE},(∀x∈S,∃o∈os,∃i,gU p o i (x.1.l.map bQ) x.2)→(flt bQ (S.map aT)).length≤S.length*100000∧fO (flt bQ (S.map aT))≤S.length*100000
 |[],_=>⟨dB _,dB _⟩
 |x::S,h=>by
  obtain⟨Q,Z⟩:=QM.bound A (S:=S) fun y G=>h y (.tail _ G);obtain⟨o,N,i,O⟩:=h x (.head _);obtain⟨_,_⟩:=Bk.c3Z O fun b e=>A b (e▸N);have e:flt bQ ((x::S).map aT)=x.1.l.map bQ++flt bQ (S.map aT):=rfl;rw[e,aS,Bk.QK,cZ,Nat.add_mul];omega
theorem QM.mem{p os S}(h:QM p os S):∀x∈S,∃o∈os,∃i,gU p o i (x.1.l.map bQ) x.2:=fun x A=>by
 obtain⟨i,G⟩:=List.getElem?_of_mem A;obtain⟨o,N,O⟩:=h i x G;exact⟨o,FQ N,i,O⟩
theorem a2U{α β:Type}(S:List α)(x:α) φ (f:β→List Value):((S++[x]).map φ).flatMap f=(S.map φ).flatMap f++f (φ x):=sI
theorem b9w{α:Type}(x y z:α)(C:List α):(x::y::z::C).Perm (x::((y::z::C)++[])):= .of_eq (by rw[dW])
theorem c3i{α:Type}(x y z:α)(A C:List α):(A++([x,y,z]++C)).Perm (x::y::z::(A++C)):=by
 refine(List.perm_append_comm_assoc A [x,y,z] C).trans ?_;exact .refl _
theorem zN.QW{α:Type}{f:α→List Value}{I:Heap}{l:List α}{p:Option Addr}{c:Nat}(h:zN f I l (.slice p l.length c))(A:Int):zN f I (l.take A.toNat) (.slice p (min l.length A.toNat) (min l.length A.toNat)):=by
 have O:=zN.take h (fH l.length A.toNat);obtain⟨p1,c1,Q,Z,G⟩:=O;obtain⟨e1,-,e3⟩:=Value.slice.inj Q;subst e1;subst e3;rw[a0C]at Z G;have N:(l.take A.toNat).length=min l.length A.toNat:=by rw[dJ,Nat.min_comm]
 exact⟨p,_,by rw[N],by rw[N];exact dB _,G⟩
theorem a6o xs vl s G (hs:s.length≤1000000000)(b6:(bJ s).1.size≤1000000000∧(bJ s).1.wide≤10000000)(be:xs.length≤1000) I (hL:a1A I xs vl)(hT:LZ I)(ht:Tabs I):yS dX 17 [vl,str s,i64 G] I []
 (fun e I' H'=>∃(S:List FE) (r:List Fv) (w we:Value),e= .returned (.tuple #[w,we])∧S.length=xs.length∧QM (bJ s) (xs.map bT) S∧Bk.IL (flt bQ (S.map aT)) (r.map bQ)∧zN CY I' (r.take G.toNat) w∧(∀z∈r,ZF I' z)∧zN FI I' (S.map bT) we∧H'=[]):=by
 refine yS.XY func17 rfl dE (Nat.le_of_ble_eq_true rfl) ?_;intro w0 _;obtain⟨pv,cv,rfl⟩:=rowLen hL.1;have ao:∀b,some b∈xs.map bT→b.L.length≤100000:=fun b hb=>by
  obtain⟨y,hy,he⟩:=dG.1 hb;rcases hL.2 y hy with⟨_,h2⟩|⟨lb,b2,_,h2,ib,mb,l,c,_,hx,_⟩
  ·rw[h2]at he;cases he
  rw[h2]at he;cases he;exact hx.big
 refine Cj.sr (aK yQ ?_);refine aK yQ ?_;refine J.yX (bU rfl (CU zeroValue27 ?_));intro b1 _;refine J.yX (bU rfl (CU zeroValue55 ?_));intro b2 _;refine J.zX (bH (aK yP ?_));refine aK yP ?_;refine bU rfl (EX rfl rfl rfl rfl rfl (b5h pv xs.length cv s _) ?_ (fun _ _ _ _ ⟨_,_,h,_⟩=>by cases h) (fun _ _ ⟨_,_,h,_⟩=>by cases h));intro _ _ _ ac b7 b8;have hL:=hL.mono ac;have hT:=hT.mono ac;have ht:=ht.mono ac;obtain⟨b9,qb,h,rfl⟩:=b8;cases h;have am:=b7;refine J.persist (am _ (.head _)) (fun _ ah ai=>?_);have hL:=hL.mono ah;have hT:=hT.mono ah;have ht:=ht.mono ah;refine J.persist (am _ (.tail _ (.head _))) (fun _ ag ap=>?_);have hL:=hL.mono ag;have hT:=hT.mono ag;have ht:=ht.mono ag;have ai:=ag _ _ ai;have aq:=b2A qb b9 s hs b6 xs _ oM _ ai ap hL hT ht;refine J.ns (dK (fP dS ?_));refine fP (dL dS) ?_;refine Cj.a2B (ps:=[15,16]) (H1:=[_,_]) (R:=[]) ([]:List FE) (nxA (bJ s) (xs.map bT)) (fun s9=>s9.length=(xs.map bT).length) (fun S I' H'=>(∀x∈S,VI I' x.1)∧QM (bJ s) (xs.map bT) S∧∃g h,BM 0 1 S.length ((S.map aT).flatMap OL) g∧BM 0 1 S.length ((S.map bT).flatMap FI) h∧H'=(b1,yZ 27 [gV S.length g])::(b2,yZ 55 [gV S.length h])::(gH 25 ((S.map aT).flatMap OL) g++gH 59 ((S.map bT).flatMap FI) h)) (fun _ _ _=>False) rfl (c3h rfl rfl) c3K rfl aq (fun _ _ _ _ ad h=>⟨fun x hx=>(h.1 x hx).mono ad,h.2⟩) ⟨fun _ h=>(by cases h),QM.nil,none,none,⟨rfl,rfl⟩,⟨rfl,rfl⟩,rfl⟩ ?_ ?_ ?_
 ·intro l r k args _ _ _ _ hk ad hY;have hL:=hL.mono ad;have hT:=hT.mono ad;have ht:=ht.mono ad;obtain⟨_,x9,_,an,rfl,a0,ba,rfl⟩:=hk;obtain⟨hS,hA,g,hh,hg,aj,rfl⟩:=hY;have bb:k.length<(xs.map bT).length:=(dF.1 an).1;rw[aI]at bb;refine Cj.sr (aK yQ ?_);refine J.GI (aK yQ ?_);refine J.nil (Ej.asg ?_);refine dK (Cj.sr (aK (yV isAgg27 (yR.at 1 rfl)) ?_));refine aK yP ?_;refine bU rfl (BQ MK RX a1C (fD rfl cO) ?_);intro _ _;refine J.perm (H':=[_,_,_,_]++(gH _ _ _++gH _ _ _)) (a1k [_,_,_,_] _ _) ?_;refine bU rfl (JX 0 (dD _) (by':=23) ([_,_,_,_]++gH _ _ _) rfl rfl rfl rfl rfl MK (.inr ⟨_,MK⟩) kR RX a1C rfl hg rfl (dN (yR.at 0 rfl) rfl rfl rfl) oM ?_);intro _ ar;refine bU rfl (EN 2 rfl rfl rfl rfl (NH _ _) (UF _ _) sizeOf27 rfl rfl (aJ aQ) (bZ (bZ aX)) ?_);refine J.GI (aK (yV UA (yR.at 3 rfl)) ?_);refine aK yP ?_;refine bU rfl (BQ a0I a0Q a7J (fD rfl cO) ?_);intro _ _;refine J.perm (H':=[_,_,_,_,_]++(gH _ _ _++gH _ _ _)) (a1k [_,_,_,_,_] _ _) ?_;refine bU rfl (JX 0 (dD _) (by':=7) ([_,_,_,_,_]++gH _ _ _) rfl rfl rfl rfl rfl a0I (.inr ⟨_,a0I⟩) kR a0Q a7J rfl aj rfl (dN (yR.at 0 rfl) rfl rfl rfl) oM ?_);intro _ au;refine bU rfl (EN 4 rfl rfl rfl rfl (NH _ _) (UF _ _) sizeOf55 rfl rfl (aJ aQ) (bZ (bZ (bZ (bZ aX)))) ?_);refine J.nil (eX (fQ (dL (dL dS)) ?_));refine fU (gZ (aH (aH (gZ (gZ fV))))) ?_;exact Ej.a2y ⟨fun x hx=>(fJ.1 hx).elim (hS x) fun hx=>by rw[dP.1 hx];exact a0,hA.snoc an ba,_,_,by rw[a2U,aS];exact ar,by rw[a2U,aS];exact au,by rw[a2U,a2U,aS];rfl⟩
 ·intro _ sE _ _ ak ad hY;have hL:=hL.mono ad;have hT:=hT.mono ad;have ht:=ht.mono ad;obtain⟨hS,hA,g,hh,hg,aj,rfl⟩:=hY;refine eX (bI (dI (fZ (b9w _ _ _ _) ?_)));refine Cj.a3b rfl (fun al=>?_);refine fZ (H':=gH 25 ((sE.map aT).flatMap OL) g++([_,_,_]++gH 59 ((sE.map bT).flatMap FI) hh)) (c3i _ _ _ _ _) ?_;have bc:∀p∈gH 25 ((sE.map aT).flatMap OL) g,w0.heap.size≤p.1:=fun p hp=>al p (.tail _ (.tail _ (.tail _ (List.mem_append_left _ hp))));have bd:∀p∈gH 59 ((sE.map bT).flatMap FI) hh,w0.heap.size≤p.1:=fun p hp=>al p (.tail _ (.tail _ (.tail _ (List.mem_append_right _ hp))));refine Cj.keepR VO dE (hg.base bc) (aI ..).symm (fun _ ac a1=>?_);have hL:=hL.mono ac;have hT:=hT.mono ac;have ht:=ht.mono ac;have hS:=fun x9 a0=>(hS x9 a0).mono ac;refine fZ (H':=gH 59 ((sE.map bT).flatMap FI) hh++[_,_,_]) bK ?_;refine Cj.keepR GX dE (aj.base bd) (aI ..).symm (fun I6 af O=>?_);have hL:=hL.mono af;have hT:=hT.mono af;have ht:=ht.mono af;have hS:=fun x9 a0=>(hS x9 a0).mono af;have a1:=a1.mono af;have a5:sE.length=xs.length:=by rw[aI]at ak;exact ak
  have bf:=QM.bound (p:=(bJ s)) (os:=(xs.map bT)) ao hA.mem;obtain⟨pl,_,ad⟩:=rowLen a1;rw[aI]at ad;have ae:SL I6 (sE.map aT) (gV sE.length g):=⟨a1,fun x hx=>by obtain⟨y,hy,rfl⟩:=dG.1 hx;exact hS y hy⟩;refine fK [0,1,2] [] 7 kR ?_;refine bW [0,2,4] kR sI ?_;intro i hi;simp only[aO,aN,or_false]at hi;rcases hi with rfl|rfl|rfl
  ·refine⟨_,rfl,rfl,?_⟩;refine zK (yV isAgg27 (yR.at 1 rfl)) ?_;refine⟨⟨(aB _),(aA 0 rfl (aA 1 rfl (aA 2 rfl aF))),aG⟩,?_⟩;refine bW [1,2,4] kR sI ?_;intro i hi;simp only[aO,aN,or_false]at hi;rcases hi with rfl|rfl|rfl
   ·refine⟨_,rfl,rfl,?_⟩;refine yT (H1:=[]) rfl rfl rfl rfl rfl (GY (sE.map aT) _ (by rw[aI];omega) oM oM _ ae) ?_ (fun _ _ _ _ ⟨_,_,h,_⟩=>by cases h) (fun _ _ ⟨_,_,h,_⟩=>by cases h);intro _ _ _ N av;have hL:=hL.mono N;have hT:=hT.mono N;have ht:=ht.mono N;have hS:=fun x9 a0=>(hS x9 a0).mono N;have a1:=a1.mono N;have O:=O.mono N;obtain⟨r,wm,h,A,hM,rfl⟩:=av;cases h;obtain⟨pm,cm,rfl,a2,-⟩:=id A.1;refine⟨⟨(aC (aB _) N),(aA 0 rfl (aA 1 rfl (aA 2 rfl aF))),aG⟩,?_⟩;refine bW [2,4] kR sI ?_;intro i hi;simp only[aO,aN,or_false]at hi;rcases hi with rfl|rfl
    ·refine⟨_,rfl,rfl,?_⟩;refine zK yP ?_;refine⟨⟨(aC (aB _) N),(aA 0 rfl (aA 1 rfl (aA 2 rfl aF))),aG⟩,?_⟩;refine bW [3,4] kR sI ?_;intro i hi;simp only[aO,aN,or_false]at hi;rcases hi with rfl|rfl
     ·refine⟨_,rfl,rfl,?_⟩;refine yU rfl rfl rfl rfl rfl (IZ pm r.length cm G a2 _) ?_;refine⟨⟨(aC (aB _) N),(aA 0 rfl (aA 1 rfl (aA 2 rfl aF))),aG⟩,?_⟩;refine bW [4,5] kR sI ?_;intro i hi;simp only[aO,aN,or_false]at hi;rcases hi with rfl|rfl
      ·refine⟨_,rfl,rfl,?_⟩;refine zK (yV UA (yR.at 2 rfl)) ?_;refine⟨⟨(aC (aB _) N),(aA 0 rfl (aA 1 rfl (aA 2 rfl aF))),aG⟩,?_⟩;refine zO 5 rfl (zK yQ ?_);refine⟨⟨(aC (aB _) N),(aA 0 rfl (aA 1 rfl (aA 2 rfl aF))),aG⟩,?_⟩;refine zO 6 rfl (zK yQ ?_);refine⟨⟨(aC (aB _) N),(aA 0 rfl (aA 1 rfl (aA 2 rfl aF))),aG⟩,?_⟩;refine AA ?_;refine bI (aY (aU (.inl rfl) ?_));refine aZ 0 rfl aX ?_;refine bC (aH (aH (aH bF))) ?_;exact bD rfl rfl rfl ⟨sE,r,_,_,rfl,a5,hA,hM,zN.QW A.1.row G,fun z hz=>(A.2 z hz).VU,O,rfl⟩
      refine⟨_,rfl,rfl,?_⟩;refine zK yQ ?_;refine⟨⟨(aC (aB _) N),(aA 0 rfl (aA 1 rfl (aA 2 rfl aF))),aG⟩,?_⟩;refine zO 4 rfl (zK (yV UA (yR.at 2 rfl)) ?_);refine⟨⟨(aC (aB _) N),(aA 0 rfl (aA 1 rfl (aA 2 rfl aF))),aG⟩,?_⟩;refine zO 6 rfl (zK yQ ?_);refine⟨⟨(aC (aB _) N),(aA 0 rfl (aA 1 rfl (aA 2 rfl aF))),aG⟩,?_⟩;refine AA ?_;refine bI (aY (aU (.inl rfl) ?_));refine aZ 0 rfl aX ?_;refine bC (aH (aH (aH bF))) ?_;exact bD rfl rfl rfl ⟨sE,r,_,_,rfl,a5,hA,hM,zN.QW A.1.row G,fun z hz=>(A.2 z hz).VU,O,rfl⟩
     refine⟨_,rfl,rfl,?_⟩;refine zK (yV UA (yR.at 2 rfl)) ?_;refine⟨⟨(aC (aB _) N),(aA 0 rfl (aA 1 rfl (aA 2 rfl aF))),aG⟩,?_⟩;refine zO 3 rfl (yU rfl rfl rfl rfl rfl (IZ pm r.length cm G a2 _) ?_);refine⟨⟨(aC (aB _) N),(aA 0 rfl (aA 1 rfl (aA 2 rfl aF))),aG⟩,?_⟩;refine zO 5 rfl (zK yQ ?_);refine⟨⟨(aC (aB _) N),(aA 0 rfl (aA 1 rfl (aA 2 rfl aF))),aG⟩,?_⟩;refine zO 6 rfl (zK yQ ?_);refine⟨⟨(aC (aB _) N),(aA 0 rfl (aA 1 rfl (aA 2 rfl aF))),aG⟩,?_⟩;refine AA ?_;refine bI (aY (aU (.inl rfl) ?_));refine aZ 0 rfl aX ?_;refine bC (aH (aH (aH bF))) ?_;exact bD rfl rfl rfl ⟨sE,r,_,_,rfl,a5,hA,hM,zN.QW A.1.row G,fun z hz=>(A.2 z hz).VU,O,rfl⟩
    refine⟨_,rfl,rfl,?_⟩;refine zK (yV UA (yR.at 2 rfl)) ?_;refine⟨⟨(aC (aB _) N),(aA 0 rfl (aA 1 rfl (aA 2 rfl aF))),aG⟩,?_⟩;refine zO 2 rfl (zK yP ?_);refine⟨⟨(aC (aB _) N),(aA 0 rfl (aA 1 rfl (aA 2 rfl aF))),aG⟩,?_⟩;refine zO 3 rfl (yU rfl rfl rfl rfl rfl (IZ pm r.length cm G a2 _) ?_);refine⟨⟨(aC (aB _) N),(aA 0 rfl (aA 1 rfl (aA 2 rfl aF))),aG⟩,?_⟩;refine zO 5 rfl (zK yQ ?_);refine⟨⟨(aC (aB _) N),(aA 0 rfl (aA 1 rfl (aA 2 rfl aF))),aG⟩,?_⟩;refine zO 6 rfl (zK yQ ?_);refine⟨⟨(aC (aB _) N),(aA 0 rfl (aA 1 rfl (aA 2 rfl aF))),aG⟩,?_⟩;refine AA ?_;refine bI (aY (aU (.inl rfl) ?_));refine aZ 0 rfl aX ?_;refine bC (aH (aH (aH bF))) ?_;exact bD rfl rfl rfl ⟨sE,r,_,_,rfl,a5,hA,hM,zN.QW A.1.row G,fun z hz=>(A.2 z hz).VU,O,rfl⟩
   ·refine⟨_,rfl,rfl,?_⟩;refine zK yP ?_;refine⟨⟨(aB _),(aA 0 rfl (aA 1 rfl (aA 2 rfl aF))),aG⟩,?_⟩;refine bW [1,4] kR sI ?_;intro i hi;simp only[aO,aN,or_false]at hi;rcases hi with rfl|rfl
    ·refine⟨_,rfl,rfl,?_⟩;refine yT (H1:=[]) rfl rfl rfl rfl rfl (GY (sE.map aT) _ (by rw[aI];omega) oM oM _ ae) ?_ (fun _ _ _ _ ⟨_,_,h,_⟩=>by cases h) (fun _ _ ⟨_,_,h,_⟩=>by cases h);intro _ _ _ Q aw;have hL:=hL.mono Q;have hT:=hT.mono Q;have ht:=ht.mono Q;have hS:=fun x9 a0=>(hS x9 a0).mono Q;have a1:=a1.mono Q;have O:=O.mono Q;obtain⟨r,wm,h,A,hM,rfl⟩:=aw;cases h;obtain⟨pm,cm,rfl,a2,-⟩:=id A.1;refine⟨⟨(aC (aB _) Q),(aA 0 rfl (aA 1 rfl (aA 2 rfl aF))),aG⟩,?_⟩;refine bW [3,4] kR sI ?_;intro i hi;simp only[aO,aN,or_false]at hi;rcases hi with rfl|rfl
     ·refine⟨_,rfl,rfl,?_⟩;refine yU rfl rfl rfl rfl rfl (IZ pm r.length cm G a2 _) ?_;refine⟨⟨(aC (aB _) Q),(aA 0 rfl (aA 1 rfl (aA 2 rfl aF))),aG⟩,?_⟩;refine bW [4,5] kR sI ?_;intro i hi;simp only[aO,aN,or_false]at hi;rcases hi with rfl|rfl
      ·refine⟨_,rfl,rfl,?_⟩;refine zK (yV UA (yR.at 2 rfl)) ?_;refine⟨⟨(aC (aB _) Q),(aA 0 rfl (aA 1 rfl (aA 2 rfl aF))),aG⟩,?_⟩;refine zO 5 rfl (zK yQ ?_);refine⟨⟨(aC (aB _) Q),(aA 0 rfl (aA 1 rfl (aA 2 rfl aF))),aG⟩,?_⟩;refine zO 6 rfl (zK yQ ?_);refine⟨⟨(aC (aB _) Q),(aA 0 rfl (aA 1 rfl (aA 2 rfl aF))),aG⟩,?_⟩;refine AA ?_;refine bI (aY (aU (.inl rfl) ?_));refine aZ 0 rfl aX ?_;refine bC (aH (aH (aH bF))) ?_;exact bD rfl rfl rfl ⟨sE,r,_,_,rfl,a5,hA,hM,zN.QW A.1.row G,fun z hz=>(A.2 z hz).VU,O,rfl⟩
      refine⟨_,rfl,rfl,?_⟩;refine zK yQ ?_;refine⟨⟨(aC (aB _) Q),(aA 0 rfl (aA 1 rfl (aA 2 rfl aF))),aG⟩,?_⟩;refine zO 4 rfl (zK (yV UA (yR.at 2 rfl)) ?_);refine⟨⟨(aC (aB _) Q),(aA 0 rfl (aA 1 rfl (aA 2 rfl aF))),aG⟩,?_⟩;refine zO 6 rfl (zK yQ ?_);refine⟨⟨(aC (aB _) Q),(aA 0 rfl (aA 1 rfl (aA 2 rfl aF))),aG⟩,?_⟩;refine AA ?_;refine bI (aY (aU (.inl rfl) ?_));refine aZ 0 rfl aX ?_;refine bC (aH (aH (aH bF))) ?_;exact bD rfl rfl rfl ⟨sE,r,_,_,rfl,a5,hA,hM,zN.QW A.1.row G,fun z hz=>(A.2 z hz).VU,O,rfl⟩
     refine⟨_,rfl,rfl,?_⟩;refine zK (yV UA (yR.at 2 rfl)) ?_;refine⟨⟨(aC (aB _) Q),(aA 0 rfl (aA 1 rfl (aA 2 rfl aF))),aG⟩,?_⟩;refine zO 3 rfl (yU rfl rfl rfl rfl rfl (IZ pm r.length cm G a2 _) ?_);refine⟨⟨(aC (aB _) Q),(aA 0 rfl (aA 1 rfl (aA 2 rfl aF))),aG⟩,?_⟩;refine zO 5 rfl (zK yQ ?_);refine⟨⟨(aC (aB _) Q),(aA 0 rfl (aA 1 rfl (aA 2 rfl aF))),aG⟩,?_⟩;refine zO 6 rfl (zK yQ ?_);refine⟨⟨(aC (aB _) Q),(aA 0 rfl (aA 1 rfl (aA 2 rfl aF))),aG⟩,?_⟩;refine AA ?_;refine bI (aY (aU (.inl rfl) ?_));refine aZ 0 rfl aX ?_;refine bC (aH (aH (aH bF))) ?_;exact bD rfl rfl rfl ⟨sE,r,_,_,rfl,a5,hA,hM,zN.QW A.1.row G,fun z hz=>(A.2 z hz).VU,O,rfl⟩
    refine⟨_,rfl,rfl,?_⟩;refine zK (yV UA (yR.at 2 rfl)) ?_;refine⟨⟨(aB _),(aA 0 rfl (aA 1 rfl (aA 2 rfl aF))),aG⟩,?_⟩;refine zO 1 rfl (yT (H1:=[]) rfl rfl rfl rfl rfl (GY (sE.map aT) _ (by rw[aI];omega) oM oM _ ae) ?_ (fun _ _ _ _ ⟨_,_,h,_⟩=>by cases h) (fun _ _ ⟨_,_,h,_⟩=>by cases h));intro _ _ _ a6 ax;have hL:=hL.mono a6;have hT:=hT.mono a6;have ht:=ht.mono a6;have hS:=fun x9 a0=>(hS x9 a0).mono a6;have a1:=a1.mono a6;have O:=O.mono a6;obtain⟨r,wm,h,A,hM,rfl⟩:=ax;cases h;obtain⟨pm,cm,rfl,a2,-⟩:=id A.1;refine⟨⟨(aC (aB _) a6),(aA 0 rfl (aA 1 rfl (aA 2 rfl aF))),aG⟩,?_⟩;refine zO 3 rfl (yU rfl rfl rfl rfl rfl (IZ pm r.length cm G a2 _) ?_);refine⟨⟨(aC (aB _) a6),(aA 0 rfl (aA 1 rfl (aA 2 rfl aF))),aG⟩,?_⟩;refine zO 5 rfl (zK yQ ?_);refine⟨⟨(aC (aB _) a6),(aA 0 rfl (aA 1 rfl (aA 2 rfl aF))),aG⟩,?_⟩;refine zO 6 rfl (zK yQ ?_);refine⟨⟨(aC (aB _) a6),(aA 0 rfl (aA 1 rfl (aA 2 rfl aF))),aG⟩,?_⟩;refine AA ?_;refine bI (aY (aU (.inl rfl) ?_));refine aZ 0 rfl aX ?_;refine bC (aH (aH (aH bF))) ?_;exact bD rfl rfl rfl ⟨sE,r,_,_,rfl,a5,hA,hM,zN.QW A.1.row G,fun z hz=>(A.2 z hz).VU,O,rfl⟩
   refine⟨_,rfl,rfl,?_⟩;refine zK (yV UA (yR.at 2 rfl)) ?_;refine⟨⟨(aB _),(aA 0 rfl (aA 1 rfl (aA 2 rfl aF))),aG⟩,?_⟩;refine bW [1,2] kR sI ?_;intro i hi;simp only[aO,aN,or_false]at hi;rcases hi with rfl|rfl
   ·refine⟨_,rfl,rfl,?_⟩;refine yT (H1:=[]) rfl rfl rfl rfl rfl (GY (sE.map aT) _ (by rw[aI];omega) oM oM _ ae) ?_ (fun _ _ _ _ ⟨_,_,h,_⟩=>by cases h) (fun _ _ ⟨_,_,h,_⟩=>by cases h);intro _ _ _ a3 ay;have hL:=hL.mono a3;have hT:=hT.mono a3;have ht:=ht.mono a3;have hS:=fun x9 a0=>(hS x9 a0).mono a3;have a1:=a1.mono a3;have O:=O.mono a3;obtain⟨r,wm,h,A,hM,rfl⟩:=ay;cases h;obtain⟨pm,cm,rfl,a2,-⟩:=id A.1;refine⟨⟨(aC (aB _) a3),(aA 0 rfl (aA 1 rfl (aA 2 rfl aF))),aG⟩,?_⟩;refine zO 2 rfl (zK yP ?_);refine⟨⟨(aC (aB _) a3),(aA 0 rfl (aA 1 rfl (aA 2 rfl aF))),aG⟩,?_⟩;refine zO 3 rfl (yU rfl rfl rfl rfl rfl (IZ pm r.length cm G a2 _) ?_);refine⟨⟨(aC (aB _) a3),(aA 0 rfl (aA 1 rfl (aA 2 rfl aF))),aG⟩,?_⟩;refine zO 5 rfl (zK yQ ?_);refine⟨⟨(aC (aB _) a3),(aA 0 rfl (aA 1 rfl (aA 2 rfl aF))),aG⟩,?_⟩;refine zO 6 rfl (zK yQ ?_);refine⟨⟨(aC (aB _) a3),(aA 0 rfl (aA 1 rfl (aA 2 rfl aF))),aG⟩,?_⟩;refine AA ?_;refine bI (aY (aU (.inl rfl) ?_));refine aZ 0 rfl aX ?_;refine bC (aH (aH (aH bF))) ?_;exact bD rfl rfl rfl ⟨sE,r,_,_,rfl,a5,hA,hM,zN.QW A.1.row G,fun z hz=>(A.2 z hz).VU,O,rfl⟩
   refine⟨_,rfl,rfl,?_⟩;refine zK yP ?_;refine⟨⟨(aB _),(aA 0 rfl (aA 1 rfl (aA 2 rfl aF))),aG⟩,?_⟩;refine zO 1 rfl (yT (H1:=[]) rfl rfl rfl rfl rfl (GY (sE.map aT) _ (by rw[aI];omega) oM oM _ ae) ?_ (fun _ _ _ _ ⟨_,_,h,_⟩=>by cases h) (fun _ _ ⟨_,_,h,_⟩=>by cases h));intro _ _ _ a7 az;have hL:=hL.mono a7;have hT:=hT.mono a7;have ht:=ht.mono a7;have hS:=fun x9 a0=>(hS x9 a0).mono a7;have a1:=a1.mono a7;have O:=O.mono a7;obtain⟨r,wm,h,A,hM,rfl⟩:=az;cases h;obtain⟨pm,cm,rfl,a2,-⟩:=id A.1;refine⟨⟨(aC (aB _) a7),(aA 0 rfl (aA 1 rfl (aA 2 rfl aF))),aG⟩,?_⟩;refine zO 3 rfl (yU rfl rfl rfl rfl rfl (IZ pm r.length cm G a2 _) ?_);refine⟨⟨(aC (aB _) a7),(aA 0 rfl (aA 1 rfl (aA 2 rfl aF))),aG⟩,?_⟩;refine zO 5 rfl (zK yQ ?_);refine⟨⟨(aC (aB _) a7),(aA 0 rfl (aA 1 rfl (aA 2 rfl aF))),aG⟩,?_⟩;refine zO 6 rfl (zK yQ ?_);refine⟨⟨(aC (aB _) a7),(aA 0 rfl (aA 1 rfl (aA 2 rfl aF))),aG⟩,?_⟩;refine AA ?_;refine bI (aY (aU (.inl rfl) ?_));refine aZ 0 rfl aX ?_;refine bC (aH (aH (aH bF))) ?_;exact bD rfl rfl rfl ⟨sE,r,_,_,rfl,a5,hA,hM,zN.QW A.1.row G,fun z hz=>(A.2 z hz).VU,O,rfl⟩
  ·refine⟨_,rfl,rfl,?_⟩;refine zK yP ?_;refine⟨⟨(aB _),(aA 0 rfl (aA 1 rfl (aA 2 rfl aF))),aG⟩,?_⟩;refine bW [0,4] kR sI ?_;intro i hi;simp only[aO,aN,or_false]at hi;rcases hi with rfl|rfl
   ·refine⟨_,rfl,rfl,?_⟩;refine zK (yV isAgg27 (yR.at 1 rfl)) ?_;refine⟨⟨(aB _),(aA 0 rfl (aA 1 rfl (aA 2 rfl aF))),aG⟩,?_⟩;refine bW [1,4] kR sI ?_;intro i hi;simp only[aO,aN,or_false]at hi;rcases hi with rfl|rfl
    ·refine⟨_,rfl,rfl,?_⟩;refine yT (H1:=[]) rfl rfl rfl rfl rfl (GY (sE.map aT) _ (by rw[aI];omega) oM oM _ ae) ?_ (fun _ _ _ _ ⟨_,_,h,_⟩=>by cases h) (fun _ _ ⟨_,_,h,_⟩=>by cases h);intro _ _ _ Z b0;have hL:=hL.mono Z;have hT:=hT.mono Z;have ht:=ht.mono Z;have hS:=fun x9 a0=>(hS x9 a0).mono Z;have a1:=a1.mono Z;have O:=O.mono Z;obtain⟨r,wm,h,A,hM,rfl⟩:=b0;cases h;obtain⟨pm,cm,rfl,a2,-⟩:=id A.1;refine⟨⟨(aC (aB _) Z),(aA 0 rfl (aA 1 rfl (aA 2 rfl aF))),aG⟩,?_⟩;refine bW [3,4] kR sI ?_;intro i hi;simp only[aO,aN,or_false]at hi;rcases hi with rfl|rfl
     ·refine⟨_,rfl,rfl,?_⟩;refine yU rfl rfl rfl rfl rfl (IZ pm r.length cm G a2 _) ?_;refine⟨⟨(aC (aB _) Z),(aA 0 rfl (aA 1 rfl (aA 2 rfl aF))),aG⟩,?_⟩;refine bW [4,5] kR sI ?_;intro i hi;simp only[aO,aN,or_false]at hi;rcases hi with rfl|rfl
      ·refine⟨_,rfl,rfl,?_⟩;refine zK (yV UA (yR.at 2 rfl)) ?_;refine⟨⟨(aC (aB _) Z),(aA 0 rfl (aA 1 rfl (aA 2 rfl aF))),aG⟩,?_⟩;refine zO 5 rfl (zK yQ ?_);refine⟨⟨(aC (aB _) Z),(aA 0 rfl (aA 1 rfl (aA 2 rfl aF))),aG⟩,?_⟩;refine zO 6 rfl (zK yQ ?_);refine⟨⟨(aC (aB _) Z),(aA 0 rfl (aA 1 rfl (aA 2 rfl aF))),aG⟩,?_⟩;refine AA ?_;refine bI (aY (aU (.inl rfl) ?_));refine aZ 0 rfl aX ?_;refine bC (aH (aH (aH bF))) ?_;exact bD rfl rfl rfl ⟨sE,r,_,_,rfl,a5,hA,hM,zN.QW A.1.row G,fun z hz=>(A.2 z hz).VU,O,rfl⟩
      refine⟨_,rfl,rfl,?_⟩;refine zK yQ ?_;refine⟨⟨(aC (aB _) Z),(aA 0 rfl (aA 1 rfl (aA 2 rfl aF))),aG⟩,?_⟩;refine zO 4 rfl (zK (yV UA (yR.at 2 rfl)) ?_);refine⟨⟨(aC (aB _) Z),(aA 0 rfl (aA 1 rfl (aA 2 rfl aF))),aG⟩,?_⟩;refine zO 6 rfl (zK yQ ?_);refine⟨⟨(aC (aB _) Z),(aA 0 rfl (aA 1 rfl (aA 2 rfl aF))),aG⟩,?_⟩;refine AA ?_;refine bI (aY (aU (.inl rfl) ?_));refine aZ 0 rfl aX ?_;refine bC (aH (aH (aH bF))) ?_;exact bD rfl rfl rfl ⟨sE,r,_,_,rfl,a5,hA,hM,zN.QW A.1.row G,fun z hz=>(A.2 z hz).VU,O,rfl⟩
     refine⟨_,rfl,rfl,?_⟩;refine zK (yV UA (yR.at 2 rfl)) ?_;refine⟨⟨(aC (aB _) Z),(aA 0 rfl (aA 1 rfl (aA 2 rfl aF))),aG⟩,?_⟩;refine zO 3 rfl (yU rfl rfl rfl rfl rfl (IZ pm r.length cm G a2 _) ?_);refine⟨⟨(aC (aB _) Z),(aA 0 rfl (aA 1 rfl (aA 2 rfl aF))),aG⟩,?_⟩;refine zO 5 rfl (zK yQ ?_);refine⟨⟨(aC (aB _) Z),(aA 0 rfl (aA 1 rfl (aA 2 rfl aF))),aG⟩,?_⟩;refine zO 6 rfl (zK yQ ?_);refine⟨⟨(aC (aB _) Z),(aA 0 rfl (aA 1 rfl (aA 2 rfl aF))),aG⟩,?_⟩;refine AA ?_;refine bI (aY (aU (.inl rfl) ?_));refine aZ 0 rfl aX ?_;refine bC (aH (aH (aH bF))) ?_;exact bD rfl rfl rfl ⟨sE,r,_,_,rfl,a5,hA,hM,zN.QW A.1.row G,fun z hz=>(A.2 z hz).VU,O,rfl⟩
    refine⟨_,rfl,rfl,?_⟩;refine zK (yV UA (yR.at 2 rfl)) ?_;refine⟨⟨(aB _),(aA 0 rfl (aA 1 rfl (aA 2 rfl aF))),aG⟩,?_⟩;refine zO 1 rfl (yT (H1:=[]) rfl rfl rfl rfl rfl (GY (sE.map aT) _ (by rw[aI];omega) oM oM _ ae) ?_ (fun _ _ _ _ ⟨_,_,h,_⟩=>by cases h) (fun _ _ ⟨_,_,h,_⟩=>by cases h));intro _ _ _ a8 hp48;have hL:=hL.mono a8;have hT:=hT.mono a8;have ht:=ht.mono a8;have hS:=fun x9 a0=>(hS x9 a0).mono a8;have a1:=a1.mono a8;have O:=O.mono a8;obtain⟨r,wm,h,A,hM,rfl⟩:=hp48;cases h;obtain⟨pm,cm,rfl,a2,-⟩:=id A.1;refine⟨⟨(aC (aB _) a8),(aA 0 rfl (aA 1 rfl (aA 2 rfl aF))),aG⟩,?_⟩;refine zO 3 rfl (yU rfl rfl rfl rfl rfl (IZ pm r.length cm G a2 _) ?_);refine⟨⟨(aC (aB _) a8),(aA 0 rfl (aA 1 rfl (aA 2 rfl aF))),aG⟩,?_⟩;refine zO 5 rfl (zK yQ ?_);refine⟨⟨(aC (aB _) a8),(aA 0 rfl (aA 1 rfl (aA 2 rfl aF))),aG⟩,?_⟩;refine zO 6 rfl (zK yQ ?_);refine⟨⟨(aC (aB _) a8),(aA 0 rfl (aA 1 rfl (aA 2 rfl aF))),aG⟩,?_⟩;refine AA ?_;refine bI (aY (aU (.inl rfl) ?_));refine aZ 0 rfl aX ?_;refine bC (aH (aH (aH bF))) ?_;exact bD rfl rfl rfl ⟨sE,r,_,_,rfl,a5,hA,hM,zN.QW A.1.row G,fun z hz=>(A.2 z hz).VU,O,rfl⟩
   refine⟨_,rfl,rfl,?_⟩;refine zK (yV UA (yR.at 2 rfl)) ?_;refine⟨⟨(aB _),(aA 0 rfl (aA 1 rfl (aA 2 rfl aF))),aG⟩,?_⟩;refine zO 0 rfl (zK (yV isAgg27 (yR.at 1 rfl)) ?_);refine⟨⟨(aB _),(aA 0 rfl (aA 1 rfl (aA 2 rfl aF))),aG⟩,?_⟩;refine zO 1 rfl (yT (H1:=[]) rfl rfl rfl rfl rfl (GY (sE.map aT) _ (by rw[aI];omega) oM oM _ ae) ?_ (fun _ _ _ _ ⟨_,_,h,_⟩=>by cases h) (fun _ _ ⟨_,_,h,_⟩=>by cases h));intro _ _ _ a9 hp53;have hL:=hL.mono a9;have hT:=hT.mono a9;have ht:=ht.mono a9;have hS:=fun x9 a0=>(hS x9 a0).mono a9;have a1:=a1.mono a9;have O:=O.mono a9;obtain⟨r,wm,h,A,hM,rfl⟩:=hp53;cases h;obtain⟨pm,cm,rfl,a2,-⟩:=id A.1;refine⟨⟨(aC (aB _) a9),(aA 0 rfl (aA 1 rfl (aA 2 rfl aF))),aG⟩,?_⟩;refine zO 3 rfl (yU rfl rfl rfl rfl rfl (IZ pm r.length cm G a2 _) ?_);refine⟨⟨(aC (aB _) a9),(aA 0 rfl (aA 1 rfl (aA 2 rfl aF))),aG⟩,?_⟩;refine zO 5 rfl (zK yQ ?_);refine⟨⟨(aC (aB _) a9),(aA 0 rfl (aA 1 rfl (aA 2 rfl aF))),aG⟩,?_⟩;refine zO 6 rfl (zK yQ ?_);refine⟨⟨(aC (aB _) a9),(aA 0 rfl (aA 1 rfl (aA 2 rfl aF))),aG⟩,?_⟩;refine AA ?_;refine bI (aY (aU (.inl rfl) ?_));refine aZ 0 rfl aX ?_;refine bC (aH (aH (aH bF))) ?_;exact bD rfl rfl rfl ⟨sE,r,_,_,rfl,a5,hA,hM,zN.QW A.1.row G,fun z hz=>(A.2 z hz).VU,O,rfl⟩
  refine⟨_,rfl,rfl,?_⟩;refine zK (yV UA (yR.at 2 rfl)) ?_;refine⟨⟨(aB _),(aA 0 rfl (aA 1 rfl (aA 2 rfl aF))),aG⟩,?_⟩;refine bW [0,2] kR sI ?_;intro i hi;simp only[aO,aN,or_false]at hi;rcases hi with rfl|rfl
  ·refine⟨_,rfl,rfl,?_⟩;refine zK (yV isAgg27 (yR.at 1 rfl)) ?_;refine⟨⟨(aB _),(aA 0 rfl (aA 1 rfl (aA 2 rfl aF))),aG⟩,?_⟩;refine bW [1,2] kR sI ?_;intro i hi;simp only[aO,aN,or_false]at hi;rcases hi with rfl|rfl
   ·refine⟨_,rfl,rfl,?_⟩;refine yT (H1:=[]) rfl rfl rfl rfl rfl (GY (sE.map aT) _ (by rw[aI];omega) oM oM _ ae) ?_ (fun _ _ _ _ ⟨_,_,h,_⟩=>by cases h) (fun _ _ ⟨_,_,h,_⟩=>by cases h);intro _ _ _ a4 b3;have hL:=hL.mono a4;have hT:=hT.mono a4;have ht:=ht.mono a4;have hS:=fun x9 a0=>(hS x9 a0).mono a4;have a1:=a1.mono a4;have O:=O.mono a4;obtain⟨r,wm,h,A,hM,rfl⟩:=b3;cases h;obtain⟨pm,cm,rfl,a2,-⟩:=id A.1;refine⟨⟨(aC (aB _) a4),(aA 0 rfl (aA 1 rfl (aA 2 rfl aF))),aG⟩,?_⟩;refine zO 2 rfl (zK yP ?_);refine⟨⟨(aC (aB _) a4),(aA 0 rfl (aA 1 rfl (aA 2 rfl aF))),aG⟩,?_⟩;refine zO 3 rfl (yU rfl rfl rfl rfl rfl (IZ pm r.length cm G a2 _) ?_);refine⟨⟨(aC (aB _) a4),(aA 0 rfl (aA 1 rfl (aA 2 rfl aF))),aG⟩,?_⟩;refine zO 5 rfl (zK yQ ?_);refine⟨⟨(aC (aB _) a4),(aA 0 rfl (aA 1 rfl (aA 2 rfl aF))),aG⟩,?_⟩;refine zO 6 rfl (zK yQ ?_);refine⟨⟨(aC (aB _) a4),(aA 0 rfl (aA 1 rfl (aA 2 rfl aF))),aG⟩,?_⟩;refine AA ?_;refine bI (aY (aU (.inl rfl) ?_));refine aZ 0 rfl aX ?_;refine bC (aH (aH (aH bF))) ?_;exact bD rfl rfl rfl ⟨sE,r,_,_,rfl,a5,hA,hM,zN.QW A.1.row G,fun z hz=>(A.2 z hz).VU,O,rfl⟩
   refine⟨_,rfl,rfl,?_⟩;refine zK yP ?_;refine⟨⟨(aB _),(aA 0 rfl (aA 1 rfl (aA 2 rfl aF))),aG⟩,?_⟩;refine zO 1 rfl (yT (H1:=[]) rfl rfl rfl rfl rfl (GY (sE.map aT) _ (by rw[aI];omega) oM oM _ ae) ?_ (fun _ _ _ _ ⟨_,_,h,_⟩=>by cases h) (fun _ _ ⟨_,_,h,_⟩=>by cases h));intro _ _ _ aa b4;have hL:=hL.mono aa;have hT:=hT.mono aa;have ht:=ht.mono aa;have hS:=fun x9 a0=>(hS x9 a0).mono aa;have a1:=a1.mono aa;have O:=O.mono aa;obtain⟨r,wm,h,A,hM,rfl⟩:=b4;cases h;obtain⟨pm,cm,rfl,a2,-⟩:=id A.1;refine⟨⟨(aC (aB _) aa),(aA 0 rfl (aA 1 rfl (aA 2 rfl aF))),aG⟩,?_⟩;refine zO 3 rfl (yU rfl rfl rfl rfl rfl (IZ pm r.length cm G a2 _) ?_);refine⟨⟨(aC (aB _) aa),(aA 0 rfl (aA 1 rfl (aA 2 rfl aF))),aG⟩,?_⟩;refine zO 5 rfl (zK yQ ?_);refine⟨⟨(aC (aB _) aa),(aA 0 rfl (aA 1 rfl (aA 2 rfl aF))),aG⟩,?_⟩;refine zO 6 rfl (zK yQ ?_);refine⟨⟨(aC (aB _) aa),(aA 0 rfl (aA 1 rfl (aA 2 rfl aF))),aG⟩,?_⟩;refine AA ?_;refine bI (aY (aU (.inl rfl) ?_));refine aZ 0 rfl aX ?_;refine bC (aH (aH (aH bF))) ?_;exact bD rfl rfl rfl ⟨sE,r,_,_,rfl,a5,hA,hM,zN.QW A.1.row G,fun z hz=>(A.2 z hz).VU,O,rfl⟩
  refine⟨_,rfl,rfl,?_⟩;refine zK yP ?_;refine⟨⟨(aB _),(aA 0 rfl (aA 1 rfl (aA 2 rfl aF))),aG⟩,?_⟩;refine zO 0 rfl (zK (yV isAgg27 (yR.at 1 rfl)) ?_);refine⟨⟨(aB _),(aA 0 rfl (aA 1 rfl (aA 2 rfl aF))),aG⟩,?_⟩;refine zO 1 rfl (yT (H1:=[]) rfl rfl rfl rfl rfl (GY (sE.map aT) _ (by rw[aI];omega) oM oM _ ae) ?_ (fun _ _ _ _ ⟨_,_,h,_⟩=>by cases h) (fun _ _ ⟨_,_,h,_⟩=>by cases h));intro _ _ _ ab b5;have hL:=hL.mono ab;have hT:=hT.mono ab;have ht:=ht.mono ab;have hS:=fun x9 a0=>(hS x9 a0).mono ab;have a1:=a1.mono ab;have O:=O.mono ab;obtain⟨r,wm,h,A,hM,rfl⟩:=b5;cases h;obtain⟨pm,cm,rfl,a2,-⟩:=id A.1;refine⟨⟨(aC (aB _) ab),(aA 0 rfl (aA 1 rfl (aA 2 rfl aF))),aG⟩,?_⟩;refine zO 3 rfl (yU rfl rfl rfl rfl rfl (IZ pm r.length cm G a2 _) ?_);refine⟨⟨(aC (aB _) ab),(aA 0 rfl (aA 1 rfl (aA 2 rfl aF))),aG⟩,?_⟩;refine zO 5 rfl (zK yQ ?_);refine⟨⟨(aC (aB _) ab),(aA 0 rfl (aA 1 rfl (aA 2 rfl aF))),aG⟩,?_⟩;refine zO 6 rfl (zK yQ ?_);refine⟨⟨(aC (aB _) ab),(aA 0 rfl (aA 1 rfl (aA 2 rfl aF))),aG⟩,?_⟩;refine AA ?_;refine bI (aY (aU (.inl rfl) ?_));refine aZ 0 rfl aX ?_;refine bC (aH (aH (aH bF))) ?_;exact bD rfl rfl rfl ⟨sE,r,_,_,rfl,a5,hA,hM,zN.QW A.1.row G,fun z hz=>(A.2 z hz).VU,O,rfl⟩
 exact fun _ _ _ _ _ hZ=>hZ.elim
abbrev QI (x:Rw Fv):List Bk.Fd:=x.l.map bQ
def a2G (I J:Heap) (x:Rw Fv):Prop:=NJ (fun b=>I b=none) 37 CY J x.l x.v∧∀y∈x.l,FvN I J y
theorem a2G.mono{I J G x}(h:a2G I J x)(A:Le J G):a2G I G x:=⟨h.1.mono A,fun y N=>(h.2 y N).mono A⟩
theorem a2G.fds{I J x}(h:a2G I J x):VI J x:=⟨h.1.row,fun y A=>(h.2 y A).VU⟩
def LsN (I J:Heap) (M:List (Rw Fv)) (v:Value):Prop:=NJ (fun b=>I b=none) 25 OL J M v∧∀x∈M,a2G I J x
theorem LsN.mono{I J G M v}(h:LsN I J M v)(A:Le J G):LsN I G M v:=⟨h.1.mono A,fun x N=>(h.2 x N).mono A⟩
theorem LsN.ls{I J M v}(h:LsN I J M v):SL J M v:=⟨h.1.row,fun x A=>(h.2 x A).fds⟩
def a7N (I:Heap) (x:Rw Fv):Prop:=zN CY I x.l x.v∧∀y∈x.l,zN FI I y.f.p y.v
theorem a7N.mono{I G x}(h:a7N I x)(A:Le I G):a7N G x:=⟨h.1.mono A,fun y N=>(h.2 y N).mono A⟩
def LsA (I:Heap) (L:List (Rw Fv)) (v:Value):Prop:=zN OL I L v∧∀x∈L,a7N I x
theorem LsA.mono{I G L v}(h:LsA I L v)(A:Le I G):LsA G L v:=⟨h.1.mono A,fun x N=>(h.2 x N).mono A⟩
theorem a2x{α:Type}{l:List α}{k n}(A:k≤n)(h:l.length≤k∨n≤k):l.take k=l.take n:=by
 rcases h with g|g
 ·rw[bY g,bY oM]
 rw[show k=n by omega]
theorem a2s{α:Type}{P:α→Prop}{l x}(h:∀y∈l,P y)(A:P x):∀y∈l++[x],P y:=fun y G=>(fJ.1 G).elim (h y) fun e=>by rw[dP.1 e];exact A
theorem a6N{L:List (Rw Fv)}{k r}(h:L[k]?=some r):((L.take (k+1)).map QI).map dR=((L.take k).map QI).map dR++[dR (QI r)]:=by
 rw[dH,h,bM,bM];rfl
theorem b9Q{l:List Fv}{j x}(h:l[j]?=some x):((l.take (j+1)).map bQ).map fB=((l.take j).map bQ).map fB++[fB x.f]:=by
 rw[dH,h,bM,bM];rfl
theorem b3B{l:List Fv}{j}(h:l.take j=l.take 12):((l.take j).map bQ).map fB=dR (l.map bQ):=by
 rw[h,eP];rfl
theorem MX{α:Type}(f:α→List Value) l x:(l++[x]).flatMap f=l.flatMap f++f x:=sI
theorem a0R L v I (hL:LsA I L v):yS dX 10 [v] I []
 (fun e I' H'=>∃M w,e= .returned w∧LsN I I' M w∧M.map QI=eF (L.map QI)∧H'=[]):=by
 obtain⟨pL,cL,rfl,_,-⟩:=id hL.1;refine yS.ob func10 ?_;intro w0 a5;refine Cj.sr (aK yQ ?_);refine J.yX (aK yQ ?_);refine J.zX (bH (aK yQ ?_));refine J.ns (dK (Cj.loop (ι:=Nat×Heap×List (Rw Fv)×Gs) (fun y=>y.1≤L.length∧y.1≤6∧LsA y.2.1 L (.slice pL L.length cL)∧(∀z∈y.2.2.1,a2G I y.2.1 z)∧y.2.2.1.map QI=((L.take y.1).map QI).map dR∧BM w0.heap.size 1 y.2.2.1.length (y.2.2.1.flatMap OL) y.2.2.2) (fun y=>6-y.1) (fun y=>[(0,.slice pL L.length cL),(3,gV y.2.2.1.length y.2.2.2),(4,i64 (y.1:Int))]) (fun y=>y.2.1) (fun y=>gH 25 (y.2.2.1.flatMap OL) y.2.2.2) (0,_,[],none) ⟨dD _,dD _,hL,fun _ h=>(by cases h),rfl,rfl,rfl⟩ rT rfl rfl ?_));rintro⟨k,J1,M,g⟩ ⟨hk,ab,hL,hM,hc,hg⟩;dsimp only at hk ab hL hM hc hg ⊢;have bf:M.length=k:=by have h9:=zD List.length hc;simp only[aI,dJ]at h9;omega
 refine dI (Cj.sr (aK yP ?_));refine aK yP ?_;refine aK (zZ b9X) ?_;refine aK AV ?_;refine aK yP ?_;refine J.split 12 rfl (fun a1=>?_) (fun a1=>?_)
 rotate_left
 ·have ap:=BJ a1;refine AP 4 12 13 true a1 ?_;refine AP 4 12 14 true a1 ?_;refine aK (ED a1) ?_;refine J.c0 (fun _=>?_);refine Cj.xl (Cj.sr (aK yP ?_));refine aK yQ ?_;refine J.ns (aY ?_);have ac:M.map QI=eF (L.map QI):=by rw[hc,a2x ab (oM:L.length≤k∨6≤k),eP];rfl
  refine gB (H':=gH 25 (M.flatMap OL) g++[]) (.of_eq (dW _)) ?_;refine Ej.a0l VO dE hg rfl (fun I8 A Z=>?_);refine zM ?_;exact⟨M,_,rfl,⟨Z.imp (fun b hb=>a5.dom hb),fun z hz=>(hM z hz).mono A⟩,ac,rfl⟩
 have ap:=BH a1;refine zU 4 12 true a1 (zK yP ?_);refine zU 4 12 true a1 (zK AV ?_);refine aK (EO a1) ?_;refine J.cd (fun ad=>?_) (fun ad=>?_)
 ·have aq:=BH ad;refine Cj.ks (dI (dK (dI ?_)));have ak:k<L.length:=oM;have bd:k<6:=oM;obtain⟨⟨rl,ra,rc⟩,a3⟩:∃r,L[k]?=some r:=⟨_,DC ak⟩;obtain⟨_,_,b1,_,hp⟩:=id hL.1;cases b1;obtain⟨fb,fo,_,_,_,_,rfl,a0,al⟩:=hp (zT ak);have hr:=hL.2 _ (FQ a3);refine bH (aK yQ ?_);refine J.zX (bH (aK yQ ?_));refine J.ns (dK (Cj.loop (ι:=Nat×Heap×List Fv×Gs) (fun y=>y.1≤rl.length∧y.1≤12∧Le J1 y.2.1∧(∀z∈y.2.2.1,FvN I y.2.1 z)∧y.2.2.1.map bQ=((rl.take y.1).map bQ).map fB∧BM w0.heap.size 4 y.2.2.1.length (y.2.2.1.flatMap CY) y.2.2.2) (fun y=>12-y.1) (fun y=>[(0,.slice (some ⟨fb,fo,none⟩) L.length cL),(3,gV M.length g),(4,i64 (k:Int)),(5,gV y.2.2.1.length y.2.2.2),(6,i64 (y.1:Int))]) (fun y=>y.2.1) (fun y=>gH 37 (y.2.2.1.flatMap CY) y.2.2.2++gH 25 (M.flatMap OL) g) (0,_,[],none) ⟨dD _,dD _,aB _,fun _ h=>(by cases h),rfl,rfl,rfl⟩ rT rfl rfl ?_));rintro⟨j,_,l,_⟩ ⟨hj,a8,Q,hN,a6,a9⟩;dsimp only at hj a8 Q hN a6 a9 ⊢;have bg:l.length=j:=by have h9:=zD List.length a6;simp only[aI,dJ]at h9;omega
  have hL:=hL.mono Q;have hM:=fun x9 O=>(hM x9 O).mono Q;have a0:=Q _ _ a0;have hr:=hr.mono Q;refine dI (Cj.sr (aK yP ?_));refine aK yP ?_;refine aK yP ?_;refine aK (AU (off':=fo+k) b9X sizeOf72) ?_;refine aK (EF isAgg72 (yR.PL a0) (LV al a3)) ?_;refine J.eqv 22 rfl (show _= .slice ra rl.length rc from rfl) ?_;refine aK (zZ underlying72) ?_;refine aK AV ?_;refine aK yP ?_;refine J.split 25 rfl (fun a2=>?_) (fun a2=>?_)
  rotate_left
  ·have ar:=BJ a2;refine AP 7 25 26 true a2 ?_;refine AP 7 25 27 true a2 ?_;refine aK (ED a2) ?_;refine J.c0 (fun _=>?_);refine Cj.xl ?_;have a4:dR (QI ⟨rl,ra,rc⟩)=QI ⟨l,none,0⟩:=by show _=l.map bQ;rw[a6,b3B (a2x a8 oM)]
   refine Cj.a0l CS dE a9 rfl (fun I8 A Z=>?_);have hL:=hL.mono A;have hM:=fun x9 O=>(hM x9 O).mono A;have a0:=A _ _ a0;have hr:=hr.mono A;have hN:=fun x9 O=>(hN x9 O).mono A;have Q:=Q.mono A;obtain⟨pw,cw,a7⟩:=rowLen Z.row;refine Cj.eqv 5 rfl (show _= .slice pw l.length cw from a7) ?_;rw[a7]at Z;have ae:a2G I _ (⟨l,pw,cw⟩:Rw Fv):=⟨Z.imp fun b hb=>a5.dom hb,hN⟩;refine bH (aK yP ?_);refine aK yP ?_;refine bU rfl (BQ MK RX a1C (fD rfl cO) ?_);intro _ _;refine bU rfl (BI (by':=23) [_] rfl rfl rfl rfl rfl MK (.inr ⟨_,MK⟩) kR RX a1C rfl hg rfl (dN (yR.at 0 rfl) rfl rfl rfl) oM ?_);intro b2 au;refine aK yQ ?_;refine J.nb (bH (aK yP ?_));refine aK (yY rfl rfl rfl (zV oM)) ?_;refine aK yQ ?_;refine J.nil (fU (aH fV) ?_);refine fE (k+1,_,M++[⟨l,pw,cw⟩],b2) ⟨dO,dO,hL,a2s hM ae,by dsimp only;rw[a6N a3,bM,hc,eY,a4],by dsimp only;rw[MX,aS];exact au⟩ dO ⟨rfl,by dsimp only;rw[aS];rfl,rfl,trivial⟩ rfl (by dsimp only;rw[MX];rfl)
  have ar:=BH a2;refine zU 7 25 true a2 (zK yP ?_);refine zU 7 25 true a2 (zK AV ?_);refine aK (EO a2) ?_;refine J.cd (fun af=>?_) (fun af=>?_)
  ·have av:=BH af;refine Cj.ks (dI (dK (dI ?_)));have ag:j<rl.length:=oM;have bc:j<12:=oM;obtain⟨x,ah⟩:∃x,rl[j]?=some x:=⟨_,DC ag⟩;obtain⟨_,_,aw,_,b3⟩:=id hr.1;cases aw;obtain⟨rb,ro,_,_,_,_,rfl,ai,b4⟩:=b3 (zT ag);have aa:=hr.2 x (FQ ah);have bh:x.f.p.length≤x.c:=by
    obtain⟨_,_,ax,b5,-⟩:=id aa;cases ax;exact b5
   refine bH (aK yP ?_);refine aK yP ?_;refine aK (AU (off':=fo+k) b9X sizeOf72) ?_;refine aK (EF isAgg72 (yR.PL a0) (LV al a3)) ?_;refine J.eqv 34 rfl (show _= .slice (some ⟨rb,ro,none⟩) rl.length rc from rfl) ?_;refine aK yP ?_;refine aK (AU (off':=ro+j*4) underlying72 sizeOf74) ?_;refine aK (FN isAgg74 sizeOf74 (yR.PL ai) (DN CS b4 ah)) ?_;refine bU rfl (CU zeroValue74 ?_);intro _ _;refine bU rfl (AB 0 sizeOf74 (aJ (aJ (aJ (aJ aQ)))) aX ?_);refine J.ns (fK [0] [] 21 kR ?_);refine gW ⟨(aA 0 rfl aF),aG,(aB _)⟩ (fun N=>?_);refine bG 0 rfl N yP ?_;refine bG 1 rfl N (qq2 (off':=0) b0y BO) ?_;refine bG 2 rfl N (yV FY (fC 0 rfl)) ?_;refine bG 3 rfl N (qq2 (off':=1) b0y BO) ?_;refine bG 4 rfl N (yV FY (fC 0 rfl)) ?_;refine bG 5 rfl N (BD (pl:= #[(0,1),(1,1)]) rfl rfl QU rfl XJ (fun w=>by simp[BO]) (aP rfl rfl rfl (aJ aQ) (aP rfl rfl rfl (aW (aJ aQ)) bV))) ?_;refine bG 6 rfl N (qq2 (off':=2) b0y zS) ?_;refine bG 7 rfl N (yV BR (fC 0 rfl)) ?_;refine bG 9 rfl N (qq2 (off':=3) b0y EZ) ?_;refine bG 10 rfl N (yV KX (fC 0 rfl)) ?_;refine bG 11 rfl N (qq2 (off':=3) b0y EZ) ?_;refine bG 12 rfl N (yV KX (fC 0 rfl)) ?_;refine bG 13 rfl N (zZ ES) ?_;refine bG 14 rfl N (OZ rfl rfl rfl) ?_;refine bG 15 rfl N (JI (k:=(min x.f.p.length 4)) rfl rfl rfl ES BO (by split<;>omega) oM) ?_;refine zO 8 rfl (a8b rfl rfl rfl ES BO ?_);intro b7 b6;refine⟨⟨(aB _),(aA 1 rfl aF),aG⟩,?_⟩;refine JA.perm (H':=([_]++(gH _ _ _++gH _ _ _))++gH 3 [] (some (b7,0,[]))) (bK (l₁:=([_]++(gH _ _ _++gH _ _ _))) (l₂:=[_])) ?_;have am:=zN.take aa (fH x.f.p.length 4);rw[a0C]at am;have be:(x.f.p.take 4).length≤4:=by rw[dJ];omega
   refine zO 16 rfl (BI (by':=7) (n:=0) (g:=some (b7,0,[])) (xs:=[]) ([_]++(gH _ _ _++gH _ _ _)) rfl rfl rfl rfl rfl ES (.inr ⟨_,ES⟩) kR BO MV rfl ⟨b6,rfl,rfl⟩ rfl (Src.row GX am (fun x _=>TQ x)) oM ?_);intro gp hgp;refine⟨⟨(aB _),(aA 0 rfl aF),aG⟩,?_⟩;refine JA.perm (H':=gH 3 ((x.f.p.take 4).flatMap FI) gp++([_]++(gH _ _ _++gH _ _ _))) bK ?_;refine JA.a0l GX dE hgp oM (fun _ G aj=>?_);have hL:=hL.mono G;have hM:=fun x9 O=>(hM x9 O).mono G;have a0:=G _ _ a0;have hr:=hr.mono G;have hN:=fun x9 O=>(hN x9 O).mono G;have Q:=Q.mono G;have ai:=G _ _ ai;have aa:=aa.mono G;obtain⟨pz,cz,an⟩:=rowLen aj.row;have ao:=a4J (0+(x.f.p.take 4).length) gp;refine JA.eqv 54 rfl (show _= .slice pz (x.f.p.take 4).length cz from an) ?_;rw[an]at aj ao;have b8:FvN I _ (⟨⟨x.f.t,x.f.k,x.f.p.take 4⟩,pz,cz⟩:Fv):=⟨aj.imp fun b hb=>a5.dom hb,ao⟩;refine gW ⟨(aA 0 rfl aF),aG,(aC (aB _) G)⟩ (fun b9=>?_);refine bG 17 rfl b9 (BD (pl:= #[(0,2),(2,1),(3,1)]) rfl rfl JZ rfl DT (fun w=>by simp[AL,EZ,zS]) (aP rfl rfl rfl (aJ (aJ aQ)) (aP rfl rfl rfl (aW (aW (aJ aQ))) (aP rfl rfl rfl (aW (aW (aW (aJ aQ)))) bV)))) ?_;refine zO 18 rfl (BQ EI CV JZ (eH rfl cO) ?_);intro _ _;refine⟨⟨(aC (aB _) G),(aA 1 rfl aF),aG⟩,?_⟩;refine JA.perm (H':=[_,_]++(gH _ _ _++gH _ _ _)) (a1k [_,_] _ _) ?_;refine zO 19 rfl (BI (by':=55) ([_,_]++gH _ _ _) rfl rfl rfl rfl rfl EI (.inr ⟨_,EI⟩) kR CV JZ rfl a9 rfl (dN (yR.at 0 rfl) rfl rfl (c3S _)) oM ?_);intro ba ay;refine⟨⟨(aC (aB _) G),(aA 1 rfl aF),aG⟩,?_⟩;refine gW ⟨(aA 1 rfl aF),aG,(aC (aB _) G)⟩ (fun az=>?_);refine bG 20 rfl az yQ ?_;refine AA ?_;refine eX (bI (bH (aK yP ?_)));refine aK (yY rfl rfl rfl (zV oM)) ?_;refine aK yQ ?_;refine J.nil (gB (a1k [_,_] (gH _ _ _) (gH _ _ _)) ?_);refine fU (aH (aH fV)) ?_;refine fE (j+1,_,l++[⟨⟨x.f.t,x.f.k,x.f.p.take 4⟩,pz,cz⟩],ba) ⟨dO,dO,Q,a2s hN b8,by dsimp only;rw[b9Q ah,bM,a6];rfl,by dsimp only;rw[MX,aS];exact ay⟩ dO ⟨rfl,rfl,rfl,by dsimp only;rw[aS];rfl,rfl,trivial⟩ rfl (by dsimp only;rw[MX];rfl)
  ·have av:=BJ af;refine Cj.xl ?_;have a4:dR (QI ⟨rl,ra,rc⟩)=QI ⟨l,none,0⟩:=by show _=l.map bQ;rw[a6,b3B (a2x a8 oM)]
   refine Cj.a0l CS dE a9 rfl (fun I8 A Z=>?_);have hL:=hL.mono A;have hM:=fun x9 O=>(hM x9 O).mono A;have a0:=A _ _ a0;have hr:=hr.mono A;have hN:=fun x9 O=>(hN x9 O).mono A;have Q:=Q.mono A;obtain⟨pw,cw,a7⟩:=rowLen Z.row;refine Cj.eqv 5 rfl (show _= .slice pw l.length cw from a7) ?_;rw[a7]at Z;have ae:a2G I _ (⟨l,pw,cw⟩:Rw Fv):=⟨Z.imp fun b hb=>a5.dom hb,hN⟩;refine bH (aK yP ?_);refine aK yP ?_;refine bU rfl (BQ MK RX a1C (fD rfl cO) ?_);intro _ _;refine bU rfl (BI (by':=23) [_] rfl rfl rfl rfl rfl MK (.inr ⟨_,MK⟩) kR RX a1C rfl hg rfl (dN (yR.at 0 rfl) rfl rfl rfl) oM ?_);intro bb b0;refine aK yQ ?_;refine J.nb (bH (aK yP ?_));refine aK (yY rfl rfl rfl (zV oM)) ?_;refine aK yQ ?_;refine J.nil (fU (aH fV) ?_);refine fE (k+1,_,M++[⟨l,pw,cw⟩],bb) ⟨dO,dO,hL,a2s hM ae,by dsimp only;rw[a6N a3,bM,hc,eY,a4],by dsimp only;rw[MX,aS];exact b0⟩ dO ⟨rfl,by dsimp only;rw[aS];rfl,rfl,trivial⟩ rfl (by dsimp only;rw[MX];rfl)
 have aq:=BJ ad;refine Cj.xl (Cj.sr (aK yP ?_));refine aK yQ ?_;refine J.ns (aY ?_);have ac:M.map QI=eF (L.map QI):=by rw[hc,a2x ab (oM:L.length≤k∨6≤k),eP];rfl
 refine gB (H':=gH 25 (M.flatMap OL) g++[]) (.of_eq (dW _)) ?_;refine Ej.a0l VO dE hg rfl (fun I8 A Z=>?_);refine zM ?_;exact⟨M,_,rfl,⟨Z.imp (fun b hb=>a5.dom hb),fun z hz=>(hM z hz).mono A⟩,ac,rfl⟩
theorem UD{M X}(h:M.map QI=eF X):flt bQ M=(eF X).flatten∧M.length≤6∧(flt bQ M).length≤72∧fO (flt bQ M)≤288:=by
 have G:flt bQ M=(M.map QI).flatten:=List.flatMap_def;have N:M.length=(eF X).length:=by rw[←h,aI]
 have A:=Bk.b5A X;rw[G,h];exact⟨rfl,oM,A.2.1,A.2.2⟩
theorem a0N{xs}{r:List Fv}(h:Bk.IL xs (r.map bQ))(G:xs.length≤72)(N:fO xs≤288):r.length≤72∧fO (r.map bQ)≤20736∧∀z∈r,z.f.p.length≤288:=by
 have A:=h.bound G N;rw[aI]at A;exact⟨A.1,A.2.1,fun z hz=>A.2.2 _ (dM hz)⟩
theorem MgS.fr{I J r w}(h:MgS I J r w){n}(hn:n≤1000000000)(A:∀z∈r,z.f.p.length≤n):∀z∈r,RN J z∧z.f.p.length≤1000000000:=fun z hz=>⟨(h.2 z hz).1.row,by have:=A z hz;omega⟩
end Go.Proofs.YtdjkhllhakhjbaaGreatDoor
namespace Ke
def c0s (f:KG):KG:={ f with sv:= .slice none 0 0 }
def nrm (fs:List KG):List KG:=fs.map c0s
theorem a0s{g}(hg:∀f,(g f).tag=f.tag) tag:∀fs:List KG,find (fs.map g) tag=(find fs tag).map g
 |[]=>rfl
 |f::r=>by
  have A:=a0s hg tag r;unfold find at A ⊢;rw[eU]
  by_cases h:f.tag=tag
  ·rw[dY (by rw[hg];simpa using h),dY (by simpa using h)];rfl
  rw[dZ (by rw[hg];simpa using h),dZ (by simpa using h),A]
theorem b8y {g : KG → KG} (hg : ∀ f, (g f).tag = f.tag) (hz : g zf = zf) (tag : Bs) (fs : List KG) : first (fs.map g) tag = g (first fs tag) := by
  unfold first
  rw [a0s hg]
  cases find fs tag with
  | none => exact hz.symm
  | some f => rfl
theorem a8W (fs : List KG) (tag : Bs) : first (nrm fs) tag = c0s (first fs tag) := b8y (g := c0s) (fun _ => rfl) rfl tag fs
theorem b8g(fs:List KG):title (nrm fs)=title fs:=by unfold title;rw[a8W];rfl
theorem b4g(fs:List KG):all (nrm fs)=all fs:=by
 have h:(nrm fs).flatMap books=fs.flatMap books:=by unfold nrm;rw[fF];rfl
 have A:SN (nrm fs)=SN fs:=by unfold SN;rw[b8g,a8W];rfl
 unfold all raw;rw[h,A]
end Ke
namespace Bk
open Ix
def N0:fG:= .slice none 0 0
def bkT (t:List UInt8) (w:fG):eG:=⟨[50,52,53],[49,48],[],w,[⟨97,t⟩]⟩
def bkA (a:List UInt8) (w:fG):eG:=⟨[49,48,48],[49,32],[],w,[⟨97,a⟩]⟩
def bk (t a:List UInt8) (w1 w2:fG):List eG:=if a≠[]then[bkT t w1,bkA a w2]else[bkT t w1]
theorem c4q t h A:bk t [] h A=[bkT t h]:=rfl
theorem c4r{a}(h:a≠[]) t A G:bk t a A G=[bkT t A,bkA a G]:=zG h
theorem b8M t a h A:Ke.nrm (bk t a h A)=Ke.nrm (bk t a N0 N0):=by
 unfold bk
 split<;>rfl
theorem a9d fs:vals (Ke.nrm fs)=vals fs:=by
 unfold vals Ke.nrm;rw[fF];rfl
theorem a7F t a h A:vals (bk t a h A)=vals (bk t a N0 N0):=by
 rw[←a9d (bk t a h A),b8M,a9d]
theorem b0L t a h A:keyOf (bk t a h A)=keyOf (bk t a N0 N0):=by
 unfold keyOf;rw[←Ke.b4g (bk t a h A),b8M,Ke.b4g]
theorem b1k{G A}(h:G.map (fun e=>(e.1,vals e.2,keyOf e.2))=A.map (fun e=>(e.1,vals e.2,keyOf e.2))):TN G=TN A:=by
 have N:∀l:List (Rec×List eG),TN l=⟨a4A ((l.map fun e=>(e.1,vals e.2,keyOf e.2)).map fun x=>(x.1,x.2.1)) [],fun t=>((l.map fun e=>(e.1,vals e.2,keyOf e.2)).foldl (fun o x=>if x.1=t then some x.2.2 else o) none).getD []⟩:=fun l=>by
  unfold TN a1K;simp only[List.map_map,List.foldl_map];rfl
 rw[N,N,h]
def a6X:List UInt8:=[69,109,109,97]
def a2a:List UInt8:=[65,117,115,116,101,110,44,32,74,97,110,101]
def b0t:List UInt8:=[83,101,97,32,115,116,111,114,105,101,115]
def a7d:List UInt8:=[69,77,77,65,46]
def a6B:List UInt8:=[65,117,115,116,101,110]
def LA:Lb:=TN [((1,1),bk a6X a2a N0 N0),((1,2),bk b0t [] N0 N0)]
def LB:Lb:=TN [((2,7),bk a7d a6B N0 N0)]
theorem c5k u x v y:TN [((1,1),bk a6X a2a u x),((1,2),bk b0t [] v y)]=LA:=b1k (by
 simp only[eU,gX];rw[a7F a6X a2a u x,a7F b0t [] v y,b0L a6X a2a u x,b0L b0t [] v y])
theorem c5b u x:TN [((2,7),bk a7d a6B u x)]=LB:=b1k (by
 simp only[eU,gX];rw[a7F a7d a6B u x,b0L a7d a6B u x])
def s1:List UInt8:=[116,105,116,108,101,32,61,32,101,109,109,97]
def s2:List UInt8:=[97,110,121,32,61,32,115,116,111,114,105,101,115]
def s3:List UInt8:=[116,105,116,108,101,32,61,32]
def s4:List UInt8:=[101,109,109,97]
def K1:List UInt8:=[116,105,116,108,101,32,101,109,109,97,32,47,32,97,117,115,116,101,110]
def K2:List UInt8:=[116,105,116,108,101,32,115,101,97,32,115,116,111,114,105,101,115,32,47,32]
theorem c1z{p b k fs e}(h:ans p (some b) k fs e)(A:p.2.2=0){r}(hr:PV b.L p.1 r){gs}(hg:found b r k=gs):fs=gs∧e=0:=by
 unfold ans at h;rw[zF (fun g=>g A)]at h;obtain⟨G,s,N,O⟩:=h;obtain rfl:s=r:=N.eq hr;exact⟨O.trans hg,G⟩
theorem c1r{p k fs e}(h:ans p none k fs e)(A:p.2.2=0):fs=[]∧e=32:=by
 unfold ans at h;rw[zF (fun g=>g A)]at h;exact h
theorem b3V{p o k fs e}(h:ans p o k fs e)(A:p.2.2=40):fs=[]∧e=40:=by
 unfold ans at h;rw[zG (by rw[A];decide),A]at h;exact h
theorem a2h{xs r s}(h:IL xs r)(A:a0E xs=s)(hs:s.Pairwise fun p q=>LP q p=false):r=s:=h.uniq (a7y (.of_eq A.symm) hs)
theorem p1:(bJ s1).2.2=0:=by decide +kernel
theorem p2:(bJ s2).2.2=0:=by decide +kernel
theorem p3:(bJ s3).2.2=40:=by decide +kernel
theorem p4:(bJ s4).2.2=0:=by decide +kernel
theorem b4H{t}(h:t∈LA.L.map (·.1)):t=(1,1)∨t=(1,2):=by
 have h:t∈[((1,1):Rec),(1,2)]:=h;simpa only[aO,aN,or_false]using h
theorem c1I{t}(h:t∈LB.L.map (·.1)):t=(2,7):=by
 have h:t∈[((2,7):Rec)]:=h;simpa only[aO,aN,or_false]using h
theorem rA1:PV LA.L (bJ s1).1 [(1,1)]:=a0L (aV _ _) (fun t h=>by rcases b4H h with rfl|rfl<;>decide +kernel) (by decide +kernel)
theorem rB1:PV LB.L (bJ s1).1 [(2,7)]:=a0L (aV _ _) (fun t h=>by rcases c1I h with rfl;decide +kernel) (by decide +kernel)
theorem rA2:PV LA.L (bJ s2).1 [(1,2)]:=a0L (aV _ _) (fun t h=>by rcases b4H h with rfl|rfl<;>decide +kernel) (by decide +kernel)
theorem rB2:PV LB.L (bJ s2).1 []:=a0L .nil (fun t A=>by rcases c1I A with rfl;decide +kernel) (fun _ h=>by cases h)
theorem rA4:PV LA.L (bJ s4).1 [(1,1)]:=a0L (aV _ _) (fun t h=>by rcases b4H h with rfl|rfl<;>decide +kernel) (by decide +kernel)
theorem fA1:found LA [(1,1)] 0=[⟨(1,1),K1,[0]⟩]:=by decide +kernel
theorem fB1:found LB [(2,7)] 1=[⟨(2,7),K1,[1]⟩]:=by decide +kernel
theorem fA2:found LA [(1,2)] 0=[⟨(1,2),K2,[0]⟩]:=by decide +kernel
theorem m1{r}(h:IL [⟨(1,1),K1,[0]⟩,⟨(2,7),K1,[1]⟩] r):r=[⟨(1,1),K1,[0,1]⟩]:=a2h h (by decide +kernel) (aV _ _)
theorem m2{r}(h:IL [⟨(1,2),K2,[0]⟩] r):r=[⟨(1,2),K2,[0]⟩]:=a2h h (by decide +kernel) (aV _ _)
theorem m3{r}(h:IL [] r):r=[]:=a2h h rfl .nil
theorem m4{r}(h:IL [⟨(1,1),K1,[0]⟩] r):r=[⟨(1,1),K1,[0]⟩]:=a2h h (by decide +kernel) (aV _ _)
theorem sc1:(allL [([97],1),([99],2),([97],3),([98],1)]).take 2=[([97],4),([98],1)]:=by decide +kernel
end Bk
namespace Go.Proofs.YtdjkhllhakhjbaaGreatDoor
open _root_.Go.Proofs.Tryz
open Go Go.Sx
open Bk
theorem a7M(n m:Int)(t a:List UInt8)(I:Heap):yS dX 16 [i64 n,i64 m,str t,str a] I []
 (fun e I' H'=>∃w w1 w2,e= .returned (.agg (a0S ⟨(n,m),0,0,w,Bk.bk t a w1 w2⟩).toArray)∧QS I' (Bk.bk t a w1 w2) w∧H'=[]):=by
 refine yS.ob func16 ?_;intro w0 _;refine Cj.sr (bU rfl (CU a6f ?_));intro _ _;refine J.yX (aK yP ?_);refine aK (BD (pl:= #[(0,1),(1,1)]) rfl rfl a4g rfl a0z (fun w=>by simp[VN,zS]) (aP rfl rfl rfl (aJ aQ) (aP rfl rfl rfl (aW (aJ aQ)) bV))) ?_;refine bU rfl (BQ a1D WI a4g (eH rfl cO) ?_);intro G a0;refine aK (BD (pl:= #[(0,1),(1,1),(2,1),(3,1)]) rfl rfl a0r rfl OX (fun w=>by simp[zS,sizeOf90]) (aP rfl rfl rfl (aJ aQ) (aP rfl rfl rfl (aW (aJ aQ)) (aP rfl rfl rfl (aW (aW (aW (aJ aQ)))) bV)))) ?_;refine bU rfl (BQ ZQ JO a0r (eH rfl cO) ?_);intro b3 a1;refine aK (BD (pl:= #[(0,1),(1,1),(2,1)]) rfl rfl zeroValue49 rfl a3x (fun w=>by simp[a2M,VN]) (aP rfl rfl rfl (aW (aW (aJ aQ))) bV)) ?_;refine bU rfl (CU zeroValue49 ?_);intro _ _;refine bU rfl (AB 0 UU (aJ (aJ (aJ aQ))) aX ?_);refine J.zX (bH (aK yP ?_));refine aK (KC rfl rfl rfl) ?_;refine J.cd (fun A=>?_) (fun A=>?_)
 ·have a2:=bne_iff_ne.1 A;refine fP (dL (dL dS)) ?_;refine Cj.persist a0 (fun _ _ h=>?_);refine fP (dL dS) ?_;refine fZ (H':=[_,_]++[_]) (bK (l₁:=[_,_]) (l₂:=[_])) ?_;refine bH (aK (qq2 (off':=2) a3x a2M) ?_);refine aK (yV isAgg47 (yR.at 0 rfl)) ?_;refine aK yP ?_;refine aK (BD (pl:= #[(0,1),(1,1)]) rfl rfl a4g rfl a0z (fun w=>by simp[VN,zS]) (aP rfl rfl rfl (aJ aQ) (aP rfl rfl rfl (aW (aJ aQ)) bV))) ?_;refine bU rfl (BQ a1D WI a4g (eH rfl cO) ?_);intro b8 a6;refine aK (BD (pl:= #[(0,1),(1,1),(2,1),(3,1)]) rfl rfl a0r rfl OX (fun w=>by simp[zS,sizeOf90]) (aP rfl rfl rfl (aJ aQ) (aP rfl rfl rfl (aW (aJ aQ)) (aP rfl rfl rfl (aW (aW (aW (aJ aQ)))) bV)))) ?_;refine bU rfl (BQ ZQ JO a0r (eH rfl cO) ?_);intro _ _;refine bU rfl (BI (by':=71) (n:=1) (g:=some (b3,1,[])) (xs:=XH (Bk.bkT t (.slice (some ⟨G,0,none⟩) 1 1))) [_,_,_,_] rfl rfl rfl rfl rfl ZQ (.inr ⟨_,ZQ⟩) kR JO a0r rfl ⟨a1,rfl,rfl⟩ rfl (dN (yR.at 0 rfl) rfl rfl rfl) oM ?_);intro a7 a3;refine aK (qq2 (off':=2) a3x a2M) ?_;refine bU rfl (EN 2 rfl rfl rfl rfl (NH _ _) (UF _ _) a2M rfl rfl (aW (aW (aJ aQ))) (bZ (bZ aX)) ?_);refine J.yX (aK yP ?_);refine aK yP ?_;refine aK (BD (pl:= #[(0,1),(1,1)]) rfl rfl QU rfl XJ (fun w=>by simp[BO]) (aP rfl rfl rfl (aJ aQ) (aP rfl rfl rfl (aW (aJ aQ)) bV))) ?_;refine aK (zW isAgg49 UU (yR.at 2 rfl)) ?_;refine aK (BD (pl:= #[(0,2),(2,3)]) rfl rfl a6f rfl WY (fun w=>by simp[AL,UU]) (aP rfl rfl rfl (aJ (aJ aQ)) (aP rfl rfl rfl (aW (aW (aJ (aJ (aJ aQ))))) bV))) ?_;refine bU rfl (EN 3 rfl rfl rfl rfl rfl (by first|rfl|(show[i64 n,i64 m,u8 0,u8 0,gV _ _].all gG=true;simp only[gK,gY,b3S,gQ];rfl)) YG rfl rfl (aJ (aJ (aJ (aJ (aJ aQ))))) (bZ (bZ (bZ aX))) ?_);refine J.ns (aY (fQ (dL dS) ?_));refine fM a6 (fun _ Q a4=>?_);have h:=Q _ _ h;have N:a≠[]:=bne_iff_ne.1 A;refine gB (H':=gH 92 (([Bk.bkT t (.slice (some ⟨G,0,none⟩) 1 1),Bk.bkA a (.slice (some ⟨b8,0,none⟩) 1 1)]:List eG).flatMap XH) a7++[_,_,_]) bK ?_;refine Ej.keepR (l:=([Bk.bkT t (.slice (some ⟨G,0,none⟩) 1 1),Bk.bkA a (.slice (some ⟨b8,0,none⟩) 1 1)]:List eG)) XR dE a3 rfl (fun _ O a8=>?_);refine Ej.c4Q (aH (aH (aH bF))) rfl rfl rfl (yR.at 2 rfl) isAgg51 YG rfl ?_;refine⟨_,(.slice (some ⟨G,0,none⟩) 1 1),(.slice (some ⟨b8,0,none⟩) 1 1),rfl,?_,rfl⟩;rw[Bk.c4r N];refine⟨a8,fun f hf=>?_⟩;simp only[aO,aN,or_false]at hf;rcases hf with rfl|rfl
  ·exact gI (l:=([⟨97,t⟩]:List Ke.Sub)) (sp:=[]) (dB _) (O _ _ h)
  exact gI (l:=([⟨97,a⟩]:List Ke.Sub)) (sp:=[]) (dB _) (O _ _ a4)
 have a2:=DI A;refine Cj.ks (Cj.sr (aK yP ?_));refine aK yP ?_;refine aK (BD (pl:= #[(0,1),(1,1)]) rfl rfl QU rfl XJ (fun w=>by simp[BO]) (aP rfl rfl rfl (aJ aQ) (aP rfl rfl rfl (aW (aJ aQ)) bV))) ?_;refine aK (zW isAgg49 UU (yR.at 0 rfl)) ?_;refine aK (BD (pl:= #[(0,2),(2,3)]) rfl rfl a6f rfl WY (fun w=>by simp[AL,UU]) (aP rfl rfl rfl (aJ (aJ aQ)) (aP rfl rfl rfl (aW (aW (aJ (aJ (aJ aQ))))) bV))) ?_;refine bU rfl (EN 3 rfl rfl rfl rfl rfl (by first|rfl|(show[i64 n,i64 m,u8 0,u8 0,gV _ _].all gG=true;simp only[gK,gY,b3S,gQ];rfl)) YG rfl rfl (aJ (aJ (aJ (aJ (aJ aQ))))) (bZ (bZ (bZ aX))) ?_);refine J.ns (aY (fQ (dL (dL dS)) ?_));refine fM a0 (fun _ _ h=>?_);refine fQ (dL dS) ?_;refine fM a1 (fun _ Z a5=>?_);have h:=Z _ _ h;have N:a=[]:=DI A;subst N;refine Ej.c4Q (aH (aH bF)) rfl rfl rfl (yR.at 1 rfl) isAgg51 YG rfl ?_;refine⟨_,(.slice (some ⟨G,0,none⟩) 1 1),.slice none 0 0,rfl,?_,rfl⟩;rw[Bk.c4q];refine⟨gI (l:=([Bk.bkT t (.slice (some ⟨G,0,none⟩) 1 1)]:List eG)) (sp:=[]) (dB _) a5,fun f hf=>?_⟩;rw[dP.1 hf];exact gI (l:=([⟨97,t⟩]:List Ke.Sub)) (sp:=[]) (dB _) h
end Go.Proofs.YtdjkhllhakhjbaaGreatDoor
namespace Bk
open Ix
theorem a5a(p:Fd→Bool):∀r:List Fd,r.length=(r.filter p).length+(r.filter fun f=> !p f).length
 |[]=>rfl
 |f::r=>by
  have A:=a5a p r;cases h:p f
  ·rw[dU (by rw[h];exact fA),dV (by rw[h];rfl),cZ,cZ];omega
  rw[dV h,dU (by rw[h];exact fA),cZ,cZ];omega
theorem b1g{α:Type}[DecidableEq α]{l m:List α}(G:l.Nodup)(N:m.Nodup)(h:∀x,x∈l↔x∈m):l.length=m.length:=
 Nat.le_antisymm (YI G fun x A=>(h x).1 A) (YI N fun x A=>(h x).2 A)
theorem IL.pair{xs r:List Fd}(h:IL xs r):r.Pairwise fun a b=>BZ a≠BZ b:=by
 have:=h.nodup
 rwa [dA,dQ]at this
theorem IL.back{xs r:List Fd}(h:IL xs r){f:Fd}(hf:f∈r):∃x∈xs,BZ x=BZ f:=by
 obtain⟨x,A,e⟩:=dG.1 ((h.ids (BZ f)).1 (dM hf));exact⟨x,A,e⟩
theorem IL.forth{xs r:List Fd}(h:IL xs r){x:Fd}(A:x∈xs):∃f∈r,BZ f=BZ x:=by
 obtain⟨f,hf,e⟩:=dG.1 ((h.ids (BZ x)).2 (dM A));exact⟨f,hf,e⟩
theorem c0i{xs r:List Fd}(h:IL xs r){A:List (List UInt8)}{B:List Rec}(hA:A.Nodup)(hB:B.Nodup)(a0:∀k,k∈A↔k≠[]∧∃x∈xs,x.k=k)(a1:∀t,t∈B↔∃x∈xs,x.k=[]∧x.t=t):r.length=A.length+B.length:=by
 rw[a5a (fun f=>decide (f.k≠[])) r];have h1:((r.filter fun f=>decide (f.k≠[])).map Fd.k).Nodup:=by
  rw[dA,dQ];refine(h.pair.filter _).imp_of_mem fun {a b} Z hb O e=>O (XQ e fun h0=>?_);exact absurd h0 (zA (bP.1 Z).2)
 have h2:((r.filter fun f=> !decide (f.k≠[])).map Fd.t).Nodup:=by
  rw[dA,dQ];refine(h.pair.filter _).imp_of_mem fun {a b} Z hb O e=>O (XQ ?_ fun _=>e);have ka:a.k=[]:=by simpa using(bP.1 Z).2
  have kb:b.k=[]:=by simpa using(bP.1 hb).2
  rw[ka,kb]
 have e1:=b1g h1 hA fun k=>by
  rw[a0,dG];constructor
  ·rintro⟨f,hf,rfl⟩;obtain⟨hr,G⟩:=bP.1 hf;obtain⟨x,N,e⟩:=h.back hr;exact⟨zA G,x,N,QA e⟩
  rintro⟨G,x,N,rfl⟩;obtain⟨f,hf,e⟩:=h.forth N;have:=QA e;exact⟨f,bP.2 ⟨hf,zI (by rw[this];exact G)⟩,this⟩
 have e2:=b1g h2 hB fun t=>by
  rw[a1,dG];constructor
  ·rintro⟨f,hf,rfl⟩;obtain⟨hr,G⟩:=bP.1 hf;have G:f.k=[]:=by simpa using G
   obtain⟨x,N,e⟩:=h.back hr;have Q:=QA e;exact⟨x,N,by rw[Q,G],WX e (by rw[Q,G])⟩
  rintro⟨x,N,G,rfl⟩;obtain⟨f,hf,e⟩:=h.forth N;have Q:=QA e;exact⟨f,bP.2 ⟨hf,by simpa using Q.trans G⟩,WX e (Q.trans G)⟩
 rw[aI]at e1 e2;omega
theorem IL.keys{xs r:List Fd}(h:IL xs r){k:Nat}{f g:Fd}(hf:r[k]?=some f)(hg:r[k+1]?=some g):¬g.k<f.k:=by
 obtain⟨O,Q⟩:=dF.1 hf;obtain⟨Z,e2⟩:=dF.1 hg;have G:=List.pairwise_iff_getElem.1 h.KQ k (k+1) O Z (Nat.lt_succ_self k);rw[Q,e2]at G;unfold LP at G;intro A
 split at G
 ·exact absurd (List.lt_trans A (zA G)) (gJ _)
 rename_i N
 have N:f.k=g.k:=Classical.byContradiction N;rw[N]at A;exact gJ _ A
theorem IL.places{xs r:List Fd}(h:IL xs r){f:Fd}(hf:f∈r):f.p.Pairwise (· <·):=by
 obtain⟨g,_,rfl⟩:=h.at hf;exact a0x g.p
end Bk
namespace Go.Proofs.YtdjkhllhakhjbaaGreatDoor
open _root_.Go.Proofs.Tryz
open Go Go.Sx
abbrev c1M (x:List UInt8×Int):Array Value:= #[str x.1,i64 x.2]
theorem c4M:EqK dX 41 c1M:=EqK.c2u LY kR dE dE rfl rfl rfl rfl BU tU3 BR FY
theorem b9F{α:Type}{a b:List α}{k x y}(h:a.take k=b.take k)(A:a[k]?=some x)(G:b[k]?=some y)(N:x=y):a.take (k+1)=b.take (k+1):=by
 rw[dH,dH,A,G,h,N]
theorem a3l a b va vb (ac:a.length≤100000000000000) I (ha:zN AX I a va)(hb:zN AX I b vb):Pure dX 13 [va,vb] I (.bool (decide (a=b))):=by
 refine yS.toPure ?_;obtain⟨p1,c1,rfl,G,a4⟩:=ha;obtain⟨p2,c2,rfl,Q,a5⟩:=hb;refine yS.ob func13 ?_;intro w0 _;refine Cj.sr (aK yQ ?_);refine J.zX (bH (aK yP ?_));refine aK (zZ CP) ?_;refine aK yP ?_;refine aK (zZ CP) ?_;refine aK (GH rfl rfl rfl) ?_;refine J.cd (fun G=>?_) (fun G=>?_)
 ·have a1:=bne_iff_ne.1 G;have a6:a.length≠b.length:=by have h:=bne_iff_ne.1 G;omega
  refine Cj.sr (aK yQ ?_);refine J.ns (Cj.rs (zM ?_));rw[zJ (fun e=>a6 (by rw[e]))];exact rT
 have a1:=DI G;have ab:a.length=b.length:=by have h:=DI G;omega
 refine Cj.ks (dI (Cj.sr (aK yQ ?_)));refine J.ns (dK (Cj.loop (ι:=Nat) (fun j=>j≤a.length∧a.take j=b.take j) (fun j=>a.length-j) (fun j=>[(0,.slice p1 a.length c1),(1,.slice p2 b.length c2),(5,i64 (j:Int))]) (fun j=>_) (fun j=>[]) 0 ⟨dD _,rfl⟩ rT rfl rfl ?_));rintro j ⟨_,O⟩;refine dI (Cj.sr (aK yP ?_));refine aK yP ?_;refine aK (zZ CP) ?_;refine aK AV ?_;refine J.cd (fun Q=>?_) (fun Q=>?_)
 ·have a2:=BH Q;have a0:j<a.length:=oM;obtain⟨x,hx⟩:∃x,a[j]?=some x:=⟨_,DC a0⟩;obtain⟨y,hy⟩:∃y,b[j]?=some y:=⟨_,DC oM⟩;obtain⟨_,oa,_,_,_,_,rfl,a7,a8⟩:=a4 (zT a0);obtain⟨_,ob,EY,_,_,_,rfl,a9,aa⟩:=a5 (zT (oM:j<b.length));refine Cj.ks (dI (dK (dI (fK [] [] 9 kR ?_))));refine gW BX (fun A=>?_);refine bG 0 rfl A yP ?_;refine bG 1 rfl A yP ?_;refine bG 2 rfl A (AU (off':=oa+j*2) CP CQ) ?_;refine bG 3 rfl A (FN NS CQ (yR.WH a7) (DN BL a8 hx)) ?_;refine bG 4 rfl A yP ?_;refine bG 5 rfl A yP ?_;refine bG 6 rfl A (AU (off':=ob+j*2) CP CQ) ?_;refine bG 7 rfl A (FN NS CQ (yR.WH a9) (DN BL aa hy)) ?_;refine bG 8 rfl A (b3l (kv:=c1M) (a:=x) (b:=y) rfl rfl rfl rfl rfl c4M kR) ?_;refine AA ?_;refine bI (Cj.cond rfl (fun N=>?_) (fun N=>?_))
  ·have a3:=bne_iff_ne.1 N;have Z:x≠y:=bne_iff_ne.1 N;refine Cj.sr (aK yQ ?_);refine J.ns (aY (Ej.OY (Ej.KU (Ej.NC (Ej.OY (Ej.KU (zM ?_)))))));rw[zJ (fun e=>Z (by rw[e,hy]at hx;exact(Option.some.inj hx).symm))];exact rT
  have a3:=DI N;have Z:x=y:=DI N;refine Cj.kb (bH (aK yP ?_));refine aK (yY rfl rfl rfl (zV oM)) ?_;refine aK yQ ?_;refine J.nil (fE (j+1) ⟨oM,b9F O hx hy Z⟩ oM rT rfl rfl)
 have a2:=BJ Q;refine Cj.xl (Cj.sr (aK yQ ?_));refine J.ns (aY (zM ?_));rw[bY (oM:a.length≤j),bY (oM:b.length≤j)]at O;rw[zI O];exact rT
