/-
  Own texts on the laws of the seat, joined: the logic, and contracts of functions. Conditions: none.
-/
import Derived.Test.YtojdemmgkdokmaaGreatDoorNmH
import Derived.Test.YtojdemmgkdokmaaGreatDoorPH17
set_option linter.all false
set_option maxRecDepth 100000
set_option maxHeartbeats 40000000
open Go.Sx.HSub renaming c -> aA,n -> aF
open Go.Sx.Le renaming refl -> aB,trans -> aC
open Go.Sx.CSub renaming n -> aG
open Go.Sx.Keeps renaming d -> aH,n -> bG,r -> fM,k -> gQ
open Go.Sx.zM renaming c -> aI,z -> aQ,s -> aX
open List renaming length_map -> aJ,not_mem_nil -> aN,mem_cons -> aO,length_append -> aS,pairwise_singleton -> aW,map_append -> bH,perm_append_comm -> bQ,take_of_length_le -> bZ,length_cons -> dA,map_singleton -> dD,take_add_one -> dF,length_take -> dH,mem_singleton -> dL,length_eq_zero_iff -> dP,append_nil -> dQ,find?_cons_of_pos -> dS,find?_cons_of_neg -> dU,map_take -> dZ,map_cons -> eF,mem_map -> eG,flatMap_map -> fA,mem_append -> fD,all_cons -> fV,map_map -> gI,map_nil -> gJ,all_nil -> gK
open Go.Sx.J renaming z -> aK,op -> bV
open Go.Sx.GN renaming part -> aP,none -> bW
open Prod renaming fst -> aT,snd -> bU
open Nat renaming le_refl -> aU,zero_le -> bM,min_le_left -> fC
open Go.Sx.Ej renaming a2G -> aV,seq -> bK,FN -> eH,round -> eY,persist -> fF,pull -> fJ,keep -> fK,perm -> fP
open Go.Sx.AV renaming z -> aY,s -> cO
open Go.Sx.Cj renaming ret -> aZ,region -> bJ,seq -> dG,block -> dI,FT -> fE,pull -> fH,perm -> fO
open Go.Sx.QM renaming mark -> bC,keep -> bD,a0L -> bF
open Go.Sx.JA renaming tk -> bI,all -> bY,fix -> gG
open Cq renaming parse -> bP
open Go.Proofs.YtojdemmgkdokmaaGreatDoor.Fv renaming f -> bT
open Go.Sx.CG renaming none -> cZ,agg -> dY,one -> eX
open Option.some renaming inj -> dB
open Go.Sx.Pull renaming s -> dJ,z -> dN
open Go.Sx.Src renaming slice -> dK
open Bk renaming c1b -> dM,a4C -> dW,a6P -> eP,MJ -> fG,ans -> gB
open Go.Proofs.Tryz renaming prog -> dR
open Option renaming map_eq_some_iff -> dV
open Ke renaming JC -> dX
open Go.Sx.yR renaming QE -> eU
open Go renaming Value -> fB
open Go.Value renaming oneCell' -> fQ
open Go.Sx.zY renaming of -> fU
open Bool renaming and_true -> fZ
namespace Go.Proofs.YtojdemmgkdokmaaGreatDoor
open _root_.Go.Proofs.Tryz
open Go Go.Sx
def KT (p:Cq.Qn×Nat×Nat) (os:List (Option Bk.Lb)) (S:List FE):Prop:=∀i x,S[i]?=some x→∃o,os[i]?=some o∧gB p o i (x.1.l.map bT) x.2
theorem KT.nil{p os}:KT p os []:=fun i x h=>by simp at h
theorem KT.snoc{p os S}(h:KT p os S){o x e}(G:os[S.length]?=some o)(O:gB p o S.length (x.l.map bT) e):KT p os (S++[(x,e)]):=fun i y A=>by
 rcases Nat.lt_or_ge i S.length with g|g
 ·rw[List.getElem?_append_left g]at A;exact h i y A
 rw[List.getElem?_append_right g]at A;have Z:i=S.length:=by
  rcases Nat.lt_or_ge 0 (i-S.length)with k|k
  ·rw[List.getElem?_eq_none (by rw[List.length_singleton];omega)]at A;cases A
  omega
 subst Z;rw[Nat.sub_self]at A;cases A;exact⟨o,G,O⟩
theorem KT.bound{p}{os:List (Option Bk.Lb)}(A:∀b,some b∈os→b.L.length≤100000):∀{S:List FE},(∀x∈S,∃o∈os,∃i,gB p o i (x.1.l.map bT) x.2)→(flt bT (S.map aT)).length≤S.length*100000∧fG (flt bT (S.map aT))≤S.length*100000
 |[],_=>⟨aU _,aU _⟩
 |x::S,h=>by
  obtain⟨h1,h2⟩:=KT.bound A (S:=S) fun y G=>h y (.tail _ G);obtain⟨o,O,i,Z⟩:=h x (.head _);obtain⟨h3,_⟩:=Bk.c4d Z fun b e=>A b (e▸O);have e:flt bT ((x::S).map aT)=x.1.l.map bT++flt bT (S.map aT):=rfl;rw[e,aS,Bk.WC,dA,Nat.add_mul];omega
theorem KT.mem{p os S}(h:KT p os S):∀x∈S,∃o∈os,∃i,gB p o i (x.1.l.map bT) x.2:=fun x A=>by
 obtain⟨i,G⟩:=List.getElem?_of_mem A;obtain⟨o,O,Z⟩:=h i x G;exact⟨o,FB O,i,Z⟩
theorem a3t{α β:Type}(S:List α)(x:α) φ (f:β→List Value):((S++[x]).map φ).flatMap f=(S.map φ).flatMap f++f (φ x):=sI
theorem c2Y{α:Type}(x y z:α)(C:List α):(x::y::z::C).Perm (x::((y::z::C)++[])):= .of_eq (by rw[dQ])
theorem c4k{α:Type}(x y z:α)(A C:List α):(A++([x,y,z]++C)).Perm (x::y::z::(A++C)):=by
 refine(List.perm_append_comm_assoc A [x,y,z] C).trans ?_;exact .refl _
theorem zY.TL{α:Type}{f:α→List Value}{I:Heap}{l:List α}{p:Option Addr}{c:Nat}(h:zY f I l (.slice p l.length c))(most:Int):zY f I (l.take most.toNat) (.slice p (min l.length most.toNat) (min l.length most.toNat)):=by
 have h1:=zY.take h (fC l.length most.toNat);obtain⟨p1,c1,O,Z,A⟩:=h1;obtain⟨e1,-,e3⟩:=Value.slice.inj O;subst e1;subst e3;rw[a3K]at Z A;have G:(l.take most.toNat).length=min l.length most.toNat:=by rw[dH,Nat.min_comm]
 exact⟨p,_,by rw[G],by rw[G];exact aU _,A⟩
theorem UD xs vl s most (hs:s.length≤1000000000)(b7:(bP s).1.size≤1000000000∧(bP s).1.wide≤10000000)(bf:xs.length≤1000) I (hL:MF I xs vl)(hT:MW I)(ht:Tabs I):yT dR 10 [vl,str s,i64 most] I []
 (fun e I' H'=>∃(S:List FE) (r:List Fv) (w we:Value),e= .returned (.tuple #[w,we])∧S.length=xs.length∧KT (bP s) (xs.map bU) S∧Bk.JR (flt bT (S.map aT)) (r.map bT)∧zY FK I' (r.take most.toNat) w∧(∀z∈r,ZK I' z)∧zY GY I' (S.map bU) we∧H'=[]):=by
 refine yT.ZR func10 rfl dE (Nat.le_of_ble_eq_true rfl) ?_;intro w0 _;obtain⟨pv,cv,rfl⟩:=rowLen hL.1;have ap:∀b,some b∈xs.map bU→b.L.length≤100000:=fun b hb=>by
  obtain⟨y,hy,he⟩:=eG.1 hb;rcases hL.2 y hy with⟨_,h2⟩|⟨lb,b2,_,h2,ib,mb,l,c,_,hx,_⟩
  ·rw[h2]at he;cases he
  rw[h2]at he;cases he;exact hx.big
 refine Cj.sr (aK yQ ?_);refine aK yQ ?_;refine J.yV (bV rfl (BP zeroValue50 ?_));intro b1 _;refine J.yV (bV rfl (BP zeroValue31 ?_));intro b2 _;refine J.AO (bJ (aK yP ?_));refine aK yP ?_;refine bV rfl (FU rfl rfl rfl rfl rfl (b6H pv xs.length cv s _) ?_ (fun _ _ _ _ ⟨_,_,h,_⟩=>by cases h) (fun _ _ ⟨_,_,h,_⟩=>by cases h));intro _ _ _ ad b8 b9;have hL:=hL.mono ad;have hT:=hT.mono ad;have ht:=ht.mono ad;obtain⟨ba,qb,h,rfl⟩:=b9;cases h;have an:=b8;refine J.persist (an _ (.head _)) (fun _ ai aj=>?_);have hL:=hL.mono ai;have hT:=hT.mono ai;have ht:=ht.mono ai;refine J.persist (an _ (.tail _ (.head _))) (fun _ ah aq=>?_);have hL:=hL.mono ah;have hT:=hT.mono ah;have ht:=ht.mono ah;have aj:=ah _ _ aj;have ar:=b4y qb ba s hs b7 xs _ oM _ aj aq hL hT ht;refine J.ns (dI (fH dN ?_));refine fH (dJ dN) ?_;refine Cj.a3L (ps:=[15,16]) (H1:=[_,_]) (R:=[]) ([]:List FE) (nxA (bP s) (xs.map bU)) (fun s9=>s9.length=(xs.map bU).length) (fun S I' H'=>(∀x∈S,a0m I' x.1)∧KT (bP s) (xs.map bU) S∧∃g h,CU 0 1 S.length ((S.map aT).flatMap WH) g∧CU 0 1 S.length ((S.map bU).flatMap GY) h∧H'=(b1,yY 50 [gV S.length g])::(b2,yY 31 [gV S.length h])::(gH 30 ((S.map aT).flatMap WH) g++gH 36 ((S.map bU).flatMap GY) h)) (fun _ _ _=>False) rfl (c6e rfl rfl) c4c rfl ar (fun _ _ _ _ ae h=>⟨fun x hx=>(h.1 x hx).mono ae,h.2⟩) ⟨fun _ h=>(by cases h),KT.nil,none,none,⟨rfl,rfl⟩,⟨rfl,rfl⟩,rfl⟩ ?_ ?_ ?_
 ·intro l r k args _ _ _ _ hk ae hY;have hL:=hL.mono ae;have hT:=hT.mono ae;have ht:=ht.mono ae;obtain⟨_,x9,_,ao,rfl,a1,bb,rfl⟩:=hk;obtain⟨hS,hA,g,hh,hg,ak,rfl⟩:=hY;have bc:k.length<(xs.map bU).length:=(List.getElem?_eq_some_iff.1 ao).1;rw[aJ]at bc;refine Cj.sr (aK yQ ?_);refine J.GL (aK yQ ?_);refine J.nil (Ej.asg ?_);refine dI (Cj.sr (aK (yX isAgg50 (yR.at 1 rfl)) ?_));refine aK yP ?_;refine bV rfl (AZ XT a2l a8L (eX rfl cZ) ?_);intro _ _;refine J.perm (H':=[_,_,_,_]++(gH _ _ _++gH _ _ _)) (NV [_,_,_,_] _ _) ?_;refine bV rfl (MB 0 (bM _) (by':=23) ([_,_,_,_]++gH _ _ _) rfl rfl rfl rfl rfl XT (.inr ⟨_,XT⟩) kR a2l a8L rfl hg rfl (dK (yR.at 0 rfl) rfl rfl rfl) oM ?_);intro _ au;refine bV rfl (EM 2 rfl rfl rfl rfl (KR _ _) (QO _ _) sizeOf50 rfl rfl (aI aQ) (cO (cO aY)) ?_);refine J.GL (aK (yX VY (yR.at 3 rfl)) ?_);refine aK yP ?_;refine bV rfl (AZ RY JJ a4I (eX rfl cZ) ?_);intro _ _;refine J.perm (H':=[_,_,_,_,_]++(gH _ _ _++gH _ _ _)) (NV [_,_,_,_,_] _ _) ?_;refine bV rfl (MB 0 (bM _) (by':=7) ([_,_,_,_,_]++gH _ _ _) rfl rfl rfl rfl rfl RY (.inr ⟨_,RY⟩) kR JJ a4I rfl ak rfl (dK (yR.at 0 rfl) rfl rfl rfl) oM ?_);intro _ av;refine bV rfl (EM 4 rfl rfl rfl rfl (KR _ _) (QO _ _) sizeOf31 rfl rfl (aI aQ) (cO (cO (cO (cO aY)))) ?_);refine J.nil (eH (fJ (dJ (dJ dN)) ?_));refine fK (gQ (aH (aH (gQ (gQ fM))))) ?_;exact Ej.a3D ⟨fun x hx=>(fD.1 hx).elim (hS x) fun hx=>by rw[dL.1 hx];exact a1,hA.snoc ao bb,_,_,by rw[a3t,aS];exact au,by rw[a3t,aS];exact av,by rw[a3t,a3t,aS];rfl⟩
 ·intro _ sE _ _ al ae hY;have hL:=hL.mono ae;have hT:=hT.mono ae;have ht:=ht.mono ae;obtain⟨hS,hA,g,hh,hg,ak,rfl⟩:=hY;refine eH (bK (dG (fO (c2Y _ _ _ _) ?_)));refine Cj.b0Z rfl (fun am=>?_);refine fO (H':=gH 30 ((sE.map aT).flatMap WH) g++([_,_,_]++gH 36 ((sE.map bU).flatMap GY) hh)) (c4k _ _ _ _ _) ?_;have bd:∀p∈gH 30 ((sE.map aT).flatMap WH) g,w0.heap.size≤p.1:=fun p hp=>am p (.tail _ (.tail _ (.tail _ (List.mem_append_left _ hp))));have be:∀p∈gH 36 ((sE.map bU).flatMap GY) hh,w0.heap.size≤p.1:=fun p hp=>am p (.tail _ (.tail _ (.tail _ (List.mem_append_right _ hp))));refine Cj.keepR a5r dE (hg.base bd) (aJ ..).symm (fun _ ad a2=>?_);have hL:=hL.mono ad;have hT:=hT.mono ad;have ht:=ht.mono ad;have hS:=fun x9 a1=>(hS x9 a1).mono ad;refine fO (H':=gH 36 ((sE.map bU).flatMap GY) hh++[_,_,_]) bQ ?_;refine Cj.keepR LP dE (ak.base be) (aJ ..).symm (fun I6 ag O=>?_);have hL:=hL.mono ag;have hT:=hT.mono ag;have ht:=ht.mono ag;have hS:=fun x9 a1=>(hS x9 a1).mono ag;have a2:=a2.mono ag;have a6:sE.length=xs.length:=by rw[aJ]at al;exact al
  have bg:=KT.bound (p:=(bP s)) (os:=(xs.map bU)) ap hA.mem;obtain⟨pl,cl,ae⟩:=rowLen a2;rw[aJ]at ae;have af:LsS I6 (sE.map aT) (gV sE.length g):=⟨a2,fun x hx=>by obtain⟨y,hy,rfl⟩:=eG.1 hx;exact hS y hy⟩;refine fE [0,1,2] [] 7 kR ?_;refine bY [0,2,4] kR sI ?_;intro i hi;simp only[aO,aN,or_false]at hi;rcases hi with rfl|rfl|rfl
  ·refine⟨_,rfl,rfl,?_⟩;refine zK (yX isAgg50 (yR.at 1 rfl)) ?_;refine⟨⟨(aB _),(aA 0 rfl (aA 1 rfl (aA 2 rfl aF))),aG⟩,?_⟩;refine bY [1,2,4] kR sI ?_;intro i hi;simp only[aO,aN,or_false]at hi;rcases hi with rfl|rfl|rfl
   ·refine⟨_,rfl,rfl,?_⟩;refine yS (H1:=[]) rfl rfl rfl rfl rfl (MZ (sE.map aT) _ (by rw[aJ];omega) oM oM _ af) ?_ (fun _ _ _ _ h=>by obtain⟨_,_,h,_⟩:=h;cases h) (fun _ _ h=>by obtain⟨_,_,h,_⟩:=h;cases h);intro _ _ _ G aw;have hL:=hL.mono G;have hT:=hT.mono G;have ht:=ht.mono G;have hS:=fun x9 a1=>(hS x9 a1).mono G;have a2:=a2.mono G;have O:=O.mono G;obtain⟨r,wm,h,A,hM,rfl⟩:=aw;cases h;obtain⟨pm,cm,rfl,a3,-⟩:=id A.1;refine⟨⟨(aC (aB _) G),(aA 0 rfl (aA 1 rfl (aA 2 rfl aF))),aG⟩,?_⟩;refine bY [2,4] kR sI ?_;intro i hi;simp only[aO,aN,or_false]at hi;rcases hi with rfl|rfl
    ·refine⟨_,rfl,rfl,?_⟩;refine zK yP ?_;refine⟨⟨(aC (aB _) G),(aA 0 rfl (aA 1 rfl (aA 2 rfl aF))),aG⟩,?_⟩;refine bY [3,4] kR sI ?_;intro i hi;simp only[aO,aN,or_false]at hi;rcases hi with rfl|rfl
     ·refine⟨_,rfl,rfl,?_⟩;refine yU rfl rfl rfl rfl rfl (JL pm r.length cm most a3 _) ?_;refine⟨⟨(aC (aB _) G),(aA 0 rfl (aA 1 rfl (aA 2 rfl aF))),aG⟩,?_⟩;refine bY [4,5] kR sI ?_;intro i hi;simp only[aO,aN,or_false]at hi;rcases hi with rfl|rfl
      ·refine⟨_,rfl,rfl,?_⟩;refine zK (yX VY (yR.at 2 rfl)) ?_;refine⟨⟨(aC (aB _) G),(aA 0 rfl (aA 1 rfl (aA 2 rfl aF))),aG⟩,?_⟩;refine zT 5 rfl (zK yQ ?_);refine⟨⟨(aC (aB _) G),(aA 0 rfl (aA 1 rfl (aA 2 rfl aF))),aG⟩,?_⟩;refine zT 6 rfl (zK yQ ?_);refine⟨⟨(aC (aB _) G),(aA 0 rfl (aA 1 rfl (aA 2 rfl aF))),aG⟩,?_⟩;refine AL ?_;refine bK (aZ (aV (.inl rfl) ?_));refine bC 0 rfl aY ?_;refine bD (aH (aH (aH bG))) ?_;exact bF rfl rfl rfl ⟨sE,r,_,_,rfl,a6,hA,hM,zY.TL A.1.row most,fun z hz=>(A.2 z hz).ZG,O,rfl⟩
      refine⟨_,rfl,rfl,?_⟩;refine zK yQ ?_;refine⟨⟨(aC (aB _) G),(aA 0 rfl (aA 1 rfl (aA 2 rfl aF))),aG⟩,?_⟩;refine zT 4 rfl (zK (yX VY (yR.at 2 rfl)) ?_);refine⟨⟨(aC (aB _) G),(aA 0 rfl (aA 1 rfl (aA 2 rfl aF))),aG⟩,?_⟩;refine zT 6 rfl (zK yQ ?_);refine⟨⟨(aC (aB _) G),(aA 0 rfl (aA 1 rfl (aA 2 rfl aF))),aG⟩,?_⟩;refine AL ?_;refine bK (aZ (aV (.inl rfl) ?_));refine bC 0 rfl aY ?_;refine bD (aH (aH (aH bG))) ?_;exact bF rfl rfl rfl ⟨sE,r,_,_,rfl,a6,hA,hM,zY.TL A.1.row most,fun z hz=>(A.2 z hz).ZG,O,rfl⟩
     refine⟨_,rfl,rfl,?_⟩;refine zK (yX VY (yR.at 2 rfl)) ?_;refine⟨⟨(aC (aB _) G),(aA 0 rfl (aA 1 rfl (aA 2 rfl aF))),aG⟩,?_⟩;refine zT 3 rfl (yU rfl rfl rfl rfl rfl (JL pm r.length cm most a3 _) ?_);refine⟨⟨(aC (aB _) G),(aA 0 rfl (aA 1 rfl (aA 2 rfl aF))),aG⟩,?_⟩;refine zT 5 rfl (zK yQ ?_);refine⟨⟨(aC (aB _) G),(aA 0 rfl (aA 1 rfl (aA 2 rfl aF))),aG⟩,?_⟩;refine zT 6 rfl (zK yQ ?_);refine⟨⟨(aC (aB _) G),(aA 0 rfl (aA 1 rfl (aA 2 rfl aF))),aG⟩,?_⟩;refine AL ?_;refine bK (aZ (aV (.inl rfl) ?_));refine bC 0 rfl aY ?_;refine bD (aH (aH (aH bG))) ?_;exact bF rfl rfl rfl ⟨sE,r,_,_,rfl,a6,hA,hM,zY.TL A.1.row most,fun z hz=>(A.2 z hz).ZG,O,rfl⟩
    refine⟨_,rfl,rfl,?_⟩;refine zK (yX VY (yR.at 2 rfl)) ?_;refine⟨⟨(aC (aB _) G),(aA 0 rfl (aA 1 rfl (aA 2 rfl aF))),aG⟩,?_⟩;refine zT 2 rfl (zK yP ?_);refine⟨⟨(aC (aB _) G),(aA 0 rfl (aA 1 rfl (aA 2 rfl aF))),aG⟩,?_⟩;refine zT 3 rfl (yU rfl rfl rfl rfl rfl (JL pm r.length cm most a3 _) ?_);refine⟨⟨(aC (aB _) G),(aA 0 rfl (aA 1 rfl (aA 2 rfl aF))),aG⟩,?_⟩;refine zT 5 rfl (zK yQ ?_);refine⟨⟨(aC (aB _) G),(aA 0 rfl (aA 1 rfl (aA 2 rfl aF))),aG⟩,?_⟩;refine zT 6 rfl (zK yQ ?_);refine⟨⟨(aC (aB _) G),(aA 0 rfl (aA 1 rfl (aA 2 rfl aF))),aG⟩,?_⟩;refine AL ?_;refine bK (aZ (aV (.inl rfl) ?_));refine bC 0 rfl aY ?_;refine bD (aH (aH (aH bG))) ?_;exact bF rfl rfl rfl ⟨sE,r,_,_,rfl,a6,hA,hM,zY.TL A.1.row most,fun z hz=>(A.2 z hz).ZG,O,rfl⟩
   ·refine⟨_,rfl,rfl,?_⟩;refine zK yP ?_;refine⟨⟨(aB _),(aA 0 rfl (aA 1 rfl (aA 2 rfl aF))),aG⟩,?_⟩;refine bY [1,4] kR sI ?_;intro i hi;simp only[aO,aN,or_false]at hi;rcases hi with rfl|rfl
    ·refine⟨_,rfl,rfl,?_⟩;refine yS (H1:=[]) rfl rfl rfl rfl rfl (MZ (sE.map aT) _ (by rw[aJ];omega) oM oM _ af) ?_ (fun _ _ _ _ h=>by obtain⟨_,_,h,_⟩:=h;cases h) (fun _ _ h=>by obtain⟨_,_,h,_⟩:=h;cases h);intro _ _ _ Z ax;have hL:=hL.mono Z;have hT:=hT.mono Z;have ht:=ht.mono Z;have hS:=fun x9 a1=>(hS x9 a1).mono Z;have a2:=a2.mono Z;have O:=O.mono Z;obtain⟨r,wm,h,A,hM,rfl⟩:=ax;cases h;obtain⟨pm,cm,rfl,a3,-⟩:=id A.1;refine⟨⟨(aC (aB _) Z),(aA 0 rfl (aA 1 rfl (aA 2 rfl aF))),aG⟩,?_⟩;refine bY [3,4] kR sI ?_;intro i hi;simp only[aO,aN,or_false]at hi;rcases hi with rfl|rfl
     ·refine⟨_,rfl,rfl,?_⟩;refine yU rfl rfl rfl rfl rfl (JL pm r.length cm most a3 _) ?_;refine⟨⟨(aC (aB _) Z),(aA 0 rfl (aA 1 rfl (aA 2 rfl aF))),aG⟩,?_⟩;refine bY [4,5] kR sI ?_;intro i hi;simp only[aO,aN,or_false]at hi;rcases hi with rfl|rfl
      ·refine⟨_,rfl,rfl,?_⟩;refine zK (yX VY (yR.at 2 rfl)) ?_;refine⟨⟨(aC (aB _) Z),(aA 0 rfl (aA 1 rfl (aA 2 rfl aF))),aG⟩,?_⟩;refine zT 5 rfl (zK yQ ?_);refine⟨⟨(aC (aB _) Z),(aA 0 rfl (aA 1 rfl (aA 2 rfl aF))),aG⟩,?_⟩;refine zT 6 rfl (zK yQ ?_);refine⟨⟨(aC (aB _) Z),(aA 0 rfl (aA 1 rfl (aA 2 rfl aF))),aG⟩,?_⟩;refine AL ?_;refine bK (aZ (aV (.inl rfl) ?_));refine bC 0 rfl aY ?_;refine bD (aH (aH (aH bG))) ?_;exact bF rfl rfl rfl ⟨sE,r,_,_,rfl,a6,hA,hM,zY.TL A.1.row most,fun z hz=>(A.2 z hz).ZG,O,rfl⟩
      refine⟨_,rfl,rfl,?_⟩;refine zK yQ ?_;refine⟨⟨(aC (aB _) Z),(aA 0 rfl (aA 1 rfl (aA 2 rfl aF))),aG⟩,?_⟩;refine zT 4 rfl (zK (yX VY (yR.at 2 rfl)) ?_);refine⟨⟨(aC (aB _) Z),(aA 0 rfl (aA 1 rfl (aA 2 rfl aF))),aG⟩,?_⟩;refine zT 6 rfl (zK yQ ?_);refine⟨⟨(aC (aB _) Z),(aA 0 rfl (aA 1 rfl (aA 2 rfl aF))),aG⟩,?_⟩;refine AL ?_;refine bK (aZ (aV (.inl rfl) ?_));refine bC 0 rfl aY ?_;refine bD (aH (aH (aH bG))) ?_;exact bF rfl rfl rfl ⟨sE,r,_,_,rfl,a6,hA,hM,zY.TL A.1.row most,fun z hz=>(A.2 z hz).ZG,O,rfl⟩
     refine⟨_,rfl,rfl,?_⟩;refine zK (yX VY (yR.at 2 rfl)) ?_;refine⟨⟨(aC (aB _) Z),(aA 0 rfl (aA 1 rfl (aA 2 rfl aF))),aG⟩,?_⟩;refine zT 3 rfl (yU rfl rfl rfl rfl rfl (JL pm r.length cm most a3 _) ?_);refine⟨⟨(aC (aB _) Z),(aA 0 rfl (aA 1 rfl (aA 2 rfl aF))),aG⟩,?_⟩;refine zT 5 rfl (zK yQ ?_);refine⟨⟨(aC (aB _) Z),(aA 0 rfl (aA 1 rfl (aA 2 rfl aF))),aG⟩,?_⟩;refine zT 6 rfl (zK yQ ?_);refine⟨⟨(aC (aB _) Z),(aA 0 rfl (aA 1 rfl (aA 2 rfl aF))),aG⟩,?_⟩;refine AL ?_;refine bK (aZ (aV (.inl rfl) ?_));refine bC 0 rfl aY ?_;refine bD (aH (aH (aH bG))) ?_;exact bF rfl rfl rfl ⟨sE,r,_,_,rfl,a6,hA,hM,zY.TL A.1.row most,fun z hz=>(A.2 z hz).ZG,O,rfl⟩
    refine⟨_,rfl,rfl,?_⟩;refine zK (yX VY (yR.at 2 rfl)) ?_;refine⟨⟨(aB _),(aA 0 rfl (aA 1 rfl (aA 2 rfl aF))),aG⟩,?_⟩;refine zT 1 rfl (yS (H1:=[]) rfl rfl rfl rfl rfl (MZ (sE.map aT) _ (by rw[aJ];omega) oM oM _ af) ?_ (fun _ _ _ _ h=>by obtain⟨_,_,h,_⟩:=h;cases h) (fun _ _ h=>by obtain⟨_,_,h,_⟩:=h;cases h));intro _ _ _ a7 ay;have hL:=hL.mono a7;have hT:=hT.mono a7;have ht:=ht.mono a7;have hS:=fun x9 a1=>(hS x9 a1).mono a7;have a2:=a2.mono a7;have O:=O.mono a7;obtain⟨r,wm,h,A,hM,rfl⟩:=ay;cases h;obtain⟨pm,cm,rfl,a3,-⟩:=id A.1;refine⟨⟨(aC (aB _) a7),(aA 0 rfl (aA 1 rfl (aA 2 rfl aF))),aG⟩,?_⟩;refine zT 3 rfl (yU rfl rfl rfl rfl rfl (JL pm r.length cm most a3 _) ?_);refine⟨⟨(aC (aB _) a7),(aA 0 rfl (aA 1 rfl (aA 2 rfl aF))),aG⟩,?_⟩;refine zT 5 rfl (zK yQ ?_);refine⟨⟨(aC (aB _) a7),(aA 0 rfl (aA 1 rfl (aA 2 rfl aF))),aG⟩,?_⟩;refine zT 6 rfl (zK yQ ?_);refine⟨⟨(aC (aB _) a7),(aA 0 rfl (aA 1 rfl (aA 2 rfl aF))),aG⟩,?_⟩;refine AL ?_;refine bK (aZ (aV (.inl rfl) ?_));refine bC 0 rfl aY ?_;refine bD (aH (aH (aH bG))) ?_;exact bF rfl rfl rfl ⟨sE,r,_,_,rfl,a6,hA,hM,zY.TL A.1.row most,fun z hz=>(A.2 z hz).ZG,O,rfl⟩
   refine⟨_,rfl,rfl,?_⟩;refine zK (yX VY (yR.at 2 rfl)) ?_;refine⟨⟨(aB _),(aA 0 rfl (aA 1 rfl (aA 2 rfl aF))),aG⟩,?_⟩;refine bY [1,2] kR sI ?_;intro i hi;simp only[aO,aN,or_false]at hi;rcases hi with rfl|rfl
   ·refine⟨_,rfl,rfl,?_⟩;refine yS (H1:=[]) rfl rfl rfl rfl rfl (MZ (sE.map aT) _ (by rw[aJ];omega) oM oM _ af) ?_ (fun _ _ _ _ h=>by obtain⟨_,_,h,_⟩:=h;cases h) (fun _ _ h=>by obtain⟨_,_,h,_⟩:=h;cases h);intro _ _ _ a4 az;have hL:=hL.mono a4;have hT:=hT.mono a4;have ht:=ht.mono a4;have hS:=fun x9 a1=>(hS x9 a1).mono a4;have a2:=a2.mono a4;have O:=O.mono a4;obtain⟨r,wm,h,A,hM,rfl⟩:=az;cases h;obtain⟨pm,cm,rfl,a3,-⟩:=id A.1;refine⟨⟨(aC (aB _) a4),(aA 0 rfl (aA 1 rfl (aA 2 rfl aF))),aG⟩,?_⟩;refine zT 2 rfl (zK yP ?_);refine⟨⟨(aC (aB _) a4),(aA 0 rfl (aA 1 rfl (aA 2 rfl aF))),aG⟩,?_⟩;refine zT 3 rfl (yU rfl rfl rfl rfl rfl (JL pm r.length cm most a3 _) ?_);refine⟨⟨(aC (aB _) a4),(aA 0 rfl (aA 1 rfl (aA 2 rfl aF))),aG⟩,?_⟩;refine zT 5 rfl (zK yQ ?_);refine⟨⟨(aC (aB _) a4),(aA 0 rfl (aA 1 rfl (aA 2 rfl aF))),aG⟩,?_⟩;refine zT 6 rfl (zK yQ ?_);refine⟨⟨(aC (aB _) a4),(aA 0 rfl (aA 1 rfl (aA 2 rfl aF))),aG⟩,?_⟩;refine AL ?_;refine bK (aZ (aV (.inl rfl) ?_));refine bC 0 rfl aY ?_;refine bD (aH (aH (aH bG))) ?_;exact bF rfl rfl rfl ⟨sE,r,_,_,rfl,a6,hA,hM,zY.TL A.1.row most,fun z hz=>(A.2 z hz).ZG,O,rfl⟩
   refine⟨_,rfl,rfl,?_⟩;refine zK yP ?_;refine⟨⟨(aB _),(aA 0 rfl (aA 1 rfl (aA 2 rfl aF))),aG⟩,?_⟩;refine zT 1 rfl (yS (H1:=[]) rfl rfl rfl rfl rfl (MZ (sE.map aT) _ (by rw[aJ];omega) oM oM _ af) ?_ (fun _ _ _ _ h=>by obtain⟨_,_,h,_⟩:=h;cases h) (fun _ _ h=>by obtain⟨_,_,h,_⟩:=h;cases h));intro _ _ _ a8 b0;have hL:=hL.mono a8;have hT:=hT.mono a8;have ht:=ht.mono a8;have hS:=fun x9 a1=>(hS x9 a1).mono a8;have a2:=a2.mono a8;have O:=O.mono a8;obtain⟨r,wm,h,A,hM,rfl⟩:=b0;cases h;obtain⟨pm,cm,rfl,a3,-⟩:=id A.1;refine⟨⟨(aC (aB _) a8),(aA 0 rfl (aA 1 rfl (aA 2 rfl aF))),aG⟩,?_⟩;refine zT 3 rfl (yU rfl rfl rfl rfl rfl (JL pm r.length cm most a3 _) ?_);refine⟨⟨(aC (aB _) a8),(aA 0 rfl (aA 1 rfl (aA 2 rfl aF))),aG⟩,?_⟩;refine zT 5 rfl (zK yQ ?_);refine⟨⟨(aC (aB _) a8),(aA 0 rfl (aA 1 rfl (aA 2 rfl aF))),aG⟩,?_⟩;refine zT 6 rfl (zK yQ ?_);refine⟨⟨(aC (aB _) a8),(aA 0 rfl (aA 1 rfl (aA 2 rfl aF))),aG⟩,?_⟩;refine AL ?_;refine bK (aZ (aV (.inl rfl) ?_));refine bC 0 rfl aY ?_;refine bD (aH (aH (aH bG))) ?_;exact bF rfl rfl rfl ⟨sE,r,_,_,rfl,a6,hA,hM,zY.TL A.1.row most,fun z hz=>(A.2 z hz).ZG,O,rfl⟩
  ·refine⟨_,rfl,rfl,?_⟩;refine zK yP ?_;refine⟨⟨(aB _),(aA 0 rfl (aA 1 rfl (aA 2 rfl aF))),aG⟩,?_⟩;refine bY [0,4] kR sI ?_;intro i hi;simp only[aO,aN,or_false]at hi;rcases hi with rfl|rfl
   ·refine⟨_,rfl,rfl,?_⟩;refine zK (yX isAgg50 (yR.at 1 rfl)) ?_;refine⟨⟨(aB _),(aA 0 rfl (aA 1 rfl (aA 2 rfl aF))),aG⟩,?_⟩;refine bY [1,4] kR sI ?_;intro i hi;simp only[aO,aN,or_false]at hi;rcases hi with rfl|rfl
    ·refine⟨_,rfl,rfl,?_⟩;refine yS (H1:=[]) rfl rfl rfl rfl rfl (MZ (sE.map aT) _ (by rw[aJ];omega) oM oM _ af) ?_ (fun _ _ _ _ h=>by obtain⟨_,_,h,_⟩:=h;cases h) (fun _ _ h=>by obtain⟨_,_,h,_⟩:=h;cases h);intro _ _ _ a0 hp43;have hL:=hL.mono a0;have hT:=hT.mono a0;have ht:=ht.mono a0;have hS:=fun x9 a1=>(hS x9 a1).mono a0;have a2:=a2.mono a0;have O:=O.mono a0;obtain⟨r,wm,h,A,hM,rfl⟩:=hp43;cases h;obtain⟨pm,cm,rfl,a3,-⟩:=id A.1;refine⟨⟨(aC (aB _) a0),(aA 0 rfl (aA 1 rfl (aA 2 rfl aF))),aG⟩,?_⟩;refine bY [3,4] kR sI ?_;intro i hi;simp only[aO,aN,or_false]at hi;rcases hi with rfl|rfl
     ·refine⟨_,rfl,rfl,?_⟩;refine yU rfl rfl rfl rfl rfl (JL pm r.length cm most a3 _) ?_;refine⟨⟨(aC (aB _) a0),(aA 0 rfl (aA 1 rfl (aA 2 rfl aF))),aG⟩,?_⟩;refine bY [4,5] kR sI ?_;intro i hi;simp only[aO,aN,or_false]at hi;rcases hi with rfl|rfl
      ·refine⟨_,rfl,rfl,?_⟩;refine zK (yX VY (yR.at 2 rfl)) ?_;refine⟨⟨(aC (aB _) a0),(aA 0 rfl (aA 1 rfl (aA 2 rfl aF))),aG⟩,?_⟩;refine zT 5 rfl (zK yQ ?_);refine⟨⟨(aC (aB _) a0),(aA 0 rfl (aA 1 rfl (aA 2 rfl aF))),aG⟩,?_⟩;refine zT 6 rfl (zK yQ ?_);refine⟨⟨(aC (aB _) a0),(aA 0 rfl (aA 1 rfl (aA 2 rfl aF))),aG⟩,?_⟩;refine AL ?_;refine bK (aZ (aV (.inl rfl) ?_));refine bC 0 rfl aY ?_;refine bD (aH (aH (aH bG))) ?_;exact bF rfl rfl rfl ⟨sE,r,_,_,rfl,a6,hA,hM,zY.TL A.1.row most,fun z hz=>(A.2 z hz).ZG,O,rfl⟩
      refine⟨_,rfl,rfl,?_⟩;refine zK yQ ?_;refine⟨⟨(aC (aB _) a0),(aA 0 rfl (aA 1 rfl (aA 2 rfl aF))),aG⟩,?_⟩;refine zT 4 rfl (zK (yX VY (yR.at 2 rfl)) ?_);refine⟨⟨(aC (aB _) a0),(aA 0 rfl (aA 1 rfl (aA 2 rfl aF))),aG⟩,?_⟩;refine zT 6 rfl (zK yQ ?_);refine⟨⟨(aC (aB _) a0),(aA 0 rfl (aA 1 rfl (aA 2 rfl aF))),aG⟩,?_⟩;refine AL ?_;refine bK (aZ (aV (.inl rfl) ?_));refine bC 0 rfl aY ?_;refine bD (aH (aH (aH bG))) ?_;exact bF rfl rfl rfl ⟨sE,r,_,_,rfl,a6,hA,hM,zY.TL A.1.row most,fun z hz=>(A.2 z hz).ZG,O,rfl⟩
     refine⟨_,rfl,rfl,?_⟩;refine zK (yX VY (yR.at 2 rfl)) ?_;refine⟨⟨(aC (aB _) a0),(aA 0 rfl (aA 1 rfl (aA 2 rfl aF))),aG⟩,?_⟩;refine zT 3 rfl (yU rfl rfl rfl rfl rfl (JL pm r.length cm most a3 _) ?_);refine⟨⟨(aC (aB _) a0),(aA 0 rfl (aA 1 rfl (aA 2 rfl aF))),aG⟩,?_⟩;refine zT 5 rfl (zK yQ ?_);refine⟨⟨(aC (aB _) a0),(aA 0 rfl (aA 1 rfl (aA 2 rfl aF))),aG⟩,?_⟩;refine zT 6 rfl (zK yQ ?_);refine⟨⟨(aC (aB _) a0),(aA 0 rfl (aA 1 rfl (aA 2 rfl aF))),aG⟩,?_⟩;refine AL ?_;refine bK (aZ (aV (.inl rfl) ?_));refine bC 0 rfl aY ?_;refine bD (aH (aH (aH bG))) ?_;exact bF rfl rfl rfl ⟨sE,r,_,_,rfl,a6,hA,hM,zY.TL A.1.row most,fun z hz=>(A.2 z hz).ZG,O,rfl⟩
    refine⟨_,rfl,rfl,?_⟩;refine zK (yX VY (yR.at 2 rfl)) ?_;refine⟨⟨(aB _),(aA 0 rfl (aA 1 rfl (aA 2 rfl aF))),aG⟩,?_⟩;refine zT 1 rfl (yS (H1:=[]) rfl rfl rfl rfl rfl (MZ (sE.map aT) _ (by rw[aJ];omega) oM oM _ af) ?_ (fun _ _ _ _ h=>by obtain⟨_,_,h,_⟩:=h;cases h) (fun _ _ h=>by obtain⟨_,_,h,_⟩:=h;cases h));intro _ _ _ a9 hp48;have hL:=hL.mono a9;have hT:=hT.mono a9;have ht:=ht.mono a9;have hS:=fun x9 a1=>(hS x9 a1).mono a9;have a2:=a2.mono a9;have O:=O.mono a9;obtain⟨r,wm,h,A,hM,rfl⟩:=hp48;cases h;obtain⟨pm,cm,rfl,a3,-⟩:=id A.1;refine⟨⟨(aC (aB _) a9),(aA 0 rfl (aA 1 rfl (aA 2 rfl aF))),aG⟩,?_⟩;refine zT 3 rfl (yU rfl rfl rfl rfl rfl (JL pm r.length cm most a3 _) ?_);refine⟨⟨(aC (aB _) a9),(aA 0 rfl (aA 1 rfl (aA 2 rfl aF))),aG⟩,?_⟩;refine zT 5 rfl (zK yQ ?_);refine⟨⟨(aC (aB _) a9),(aA 0 rfl (aA 1 rfl (aA 2 rfl aF))),aG⟩,?_⟩;refine zT 6 rfl (zK yQ ?_);refine⟨⟨(aC (aB _) a9),(aA 0 rfl (aA 1 rfl (aA 2 rfl aF))),aG⟩,?_⟩;refine AL ?_;refine bK (aZ (aV (.inl rfl) ?_));refine bC 0 rfl aY ?_;refine bD (aH (aH (aH bG))) ?_;exact bF rfl rfl rfl ⟨sE,r,_,_,rfl,a6,hA,hM,zY.TL A.1.row most,fun z hz=>(A.2 z hz).ZG,O,rfl⟩
   refine⟨_,rfl,rfl,?_⟩;refine zK (yX VY (yR.at 2 rfl)) ?_;refine⟨⟨(aB _),(aA 0 rfl (aA 1 rfl (aA 2 rfl aF))),aG⟩,?_⟩;refine zT 0 rfl (zK (yX isAgg50 (yR.at 1 rfl)) ?_);refine⟨⟨(aB _),(aA 0 rfl (aA 1 rfl (aA 2 rfl aF))),aG⟩,?_⟩;refine zT 1 rfl (yS (H1:=[]) rfl rfl rfl rfl rfl (MZ (sE.map aT) _ (by rw[aJ];omega) oM oM _ af) ?_ (fun _ _ _ _ h=>by obtain⟨_,_,h,_⟩:=h;cases h) (fun _ _ h=>by obtain⟨_,_,h,_⟩:=h;cases h));intro _ _ _ aa b3;have hL:=hL.mono aa;have hT:=hT.mono aa;have ht:=ht.mono aa;have hS:=fun x9 a1=>(hS x9 a1).mono aa;have a2:=a2.mono aa;have O:=O.mono aa;obtain⟨r,wm,h,A,hM,rfl⟩:=b3;cases h;obtain⟨pm,cm,rfl,a3,-⟩:=id A.1;refine⟨⟨(aC (aB _) aa),(aA 0 rfl (aA 1 rfl (aA 2 rfl aF))),aG⟩,?_⟩;refine zT 3 rfl (yU rfl rfl rfl rfl rfl (JL pm r.length cm most a3 _) ?_);refine⟨⟨(aC (aB _) aa),(aA 0 rfl (aA 1 rfl (aA 2 rfl aF))),aG⟩,?_⟩;refine zT 5 rfl (zK yQ ?_);refine⟨⟨(aC (aB _) aa),(aA 0 rfl (aA 1 rfl (aA 2 rfl aF))),aG⟩,?_⟩;refine zT 6 rfl (zK yQ ?_);refine⟨⟨(aC (aB _) aa),(aA 0 rfl (aA 1 rfl (aA 2 rfl aF))),aG⟩,?_⟩;refine AL ?_;refine bK (aZ (aV (.inl rfl) ?_));refine bC 0 rfl aY ?_;refine bD (aH (aH (aH bG))) ?_;exact bF rfl rfl rfl ⟨sE,r,_,_,rfl,a6,hA,hM,zY.TL A.1.row most,fun z hz=>(A.2 z hz).ZG,O,rfl⟩
  refine⟨_,rfl,rfl,?_⟩;refine zK (yX VY (yR.at 2 rfl)) ?_;refine⟨⟨(aB _),(aA 0 rfl (aA 1 rfl (aA 2 rfl aF))),aG⟩,?_⟩;refine bY [0,2] kR sI ?_;intro i hi;simp only[aO,aN,or_false]at hi;rcases hi with rfl|rfl
  ·refine⟨_,rfl,rfl,?_⟩;refine zK (yX isAgg50 (yR.at 1 rfl)) ?_;refine⟨⟨(aB _),(aA 0 rfl (aA 1 rfl (aA 2 rfl aF))),aG⟩,?_⟩;refine bY [1,2] kR sI ?_;intro i hi;simp only[aO,aN,or_false]at hi;rcases hi with rfl|rfl
   ·refine⟨_,rfl,rfl,?_⟩;refine yS (H1:=[]) rfl rfl rfl rfl rfl (MZ (sE.map aT) _ (by rw[aJ];omega) oM oM _ af) ?_ (fun _ _ _ _ h=>by obtain⟨_,_,h,_⟩:=h;cases h) (fun _ _ h=>by obtain⟨_,_,h,_⟩:=h;cases h);intro _ _ _ a5 b4;have hL:=hL.mono a5;have hT:=hT.mono a5;have ht:=ht.mono a5;have hS:=fun x9 a1=>(hS x9 a1).mono a5;have a2:=a2.mono a5;have O:=O.mono a5;obtain⟨r,wm,h,A,hM,rfl⟩:=b4;cases h;obtain⟨pm,cm,rfl,a3,-⟩:=id A.1;refine⟨⟨(aC (aB _) a5),(aA 0 rfl (aA 1 rfl (aA 2 rfl aF))),aG⟩,?_⟩;refine zT 2 rfl (zK yP ?_);refine⟨⟨(aC (aB _) a5),(aA 0 rfl (aA 1 rfl (aA 2 rfl aF))),aG⟩,?_⟩;refine zT 3 rfl (yU rfl rfl rfl rfl rfl (JL pm r.length cm most a3 _) ?_);refine⟨⟨(aC (aB _) a5),(aA 0 rfl (aA 1 rfl (aA 2 rfl aF))),aG⟩,?_⟩;refine zT 5 rfl (zK yQ ?_);refine⟨⟨(aC (aB _) a5),(aA 0 rfl (aA 1 rfl (aA 2 rfl aF))),aG⟩,?_⟩;refine zT 6 rfl (zK yQ ?_);refine⟨⟨(aC (aB _) a5),(aA 0 rfl (aA 1 rfl (aA 2 rfl aF))),aG⟩,?_⟩;refine AL ?_;refine bK (aZ (aV (.inl rfl) ?_));refine bC 0 rfl aY ?_;refine bD (aH (aH (aH bG))) ?_;exact bF rfl rfl rfl ⟨sE,r,_,_,rfl,a6,hA,hM,zY.TL A.1.row most,fun z hz=>(A.2 z hz).ZG,O,rfl⟩
   refine⟨_,rfl,rfl,?_⟩;refine zK yP ?_;refine⟨⟨(aB _),(aA 0 rfl (aA 1 rfl (aA 2 rfl aF))),aG⟩,?_⟩;refine zT 1 rfl (yS (H1:=[]) rfl rfl rfl rfl rfl (MZ (sE.map aT) _ (by rw[aJ];omega) oM oM _ af) ?_ (fun _ _ _ _ h=>by obtain⟨_,_,h,_⟩:=h;cases h) (fun _ _ h=>by obtain⟨_,_,h,_⟩:=h;cases h));intro _ _ _ ab b5;have hL:=hL.mono ab;have hT:=hT.mono ab;have ht:=ht.mono ab;have hS:=fun x9 a1=>(hS x9 a1).mono ab;have a2:=a2.mono ab;have O:=O.mono ab;obtain⟨r,wm,h,A,hM,rfl⟩:=b5;cases h;obtain⟨pm,cm,rfl,a3,-⟩:=id A.1;refine⟨⟨(aC (aB _) ab),(aA 0 rfl (aA 1 rfl (aA 2 rfl aF))),aG⟩,?_⟩;refine zT 3 rfl (yU rfl rfl rfl rfl rfl (JL pm r.length cm most a3 _) ?_);refine⟨⟨(aC (aB _) ab),(aA 0 rfl (aA 1 rfl (aA 2 rfl aF))),aG⟩,?_⟩;refine zT 5 rfl (zK yQ ?_);refine⟨⟨(aC (aB _) ab),(aA 0 rfl (aA 1 rfl (aA 2 rfl aF))),aG⟩,?_⟩;refine zT 6 rfl (zK yQ ?_);refine⟨⟨(aC (aB _) ab),(aA 0 rfl (aA 1 rfl (aA 2 rfl aF))),aG⟩,?_⟩;refine AL ?_;refine bK (aZ (aV (.inl rfl) ?_));refine bC 0 rfl aY ?_;refine bD (aH (aH (aH bG))) ?_;exact bF rfl rfl rfl ⟨sE,r,_,_,rfl,a6,hA,hM,zY.TL A.1.row most,fun z hz=>(A.2 z hz).ZG,O,rfl⟩
  refine⟨_,rfl,rfl,?_⟩;refine zK yP ?_;refine⟨⟨(aB _),(aA 0 rfl (aA 1 rfl (aA 2 rfl aF))),aG⟩,?_⟩;refine zT 0 rfl (zK (yX isAgg50 (yR.at 1 rfl)) ?_);refine⟨⟨(aB _),(aA 0 rfl (aA 1 rfl (aA 2 rfl aF))),aG⟩,?_⟩;refine zT 1 rfl (yS (H1:=[]) rfl rfl rfl rfl rfl (MZ (sE.map aT) _ (by rw[aJ];omega) oM oM _ af) ?_ (fun _ _ _ _ h=>by obtain⟨_,_,h,_⟩:=h;cases h) (fun _ _ h=>by obtain⟨_,_,h,_⟩:=h;cases h));intro _ _ _ ac b6;have hL:=hL.mono ac;have hT:=hT.mono ac;have ht:=ht.mono ac;have hS:=fun x9 a1=>(hS x9 a1).mono ac;have a2:=a2.mono ac;have O:=O.mono ac;obtain⟨r,wm,h,A,hM,rfl⟩:=b6;cases h;obtain⟨pm,cm,rfl,a3,-⟩:=id A.1;refine⟨⟨(aC (aB _) ac),(aA 0 rfl (aA 1 rfl (aA 2 rfl aF))),aG⟩,?_⟩;refine zT 3 rfl (yU rfl rfl rfl rfl rfl (JL pm r.length cm most a3 _) ?_);refine⟨⟨(aC (aB _) ac),(aA 0 rfl (aA 1 rfl (aA 2 rfl aF))),aG⟩,?_⟩;refine zT 5 rfl (zK yQ ?_);refine⟨⟨(aC (aB _) ac),(aA 0 rfl (aA 1 rfl (aA 2 rfl aF))),aG⟩,?_⟩;refine zT 6 rfl (zK yQ ?_);refine⟨⟨(aC (aB _) ac),(aA 0 rfl (aA 1 rfl (aA 2 rfl aF))),aG⟩,?_⟩;refine AL ?_;refine bK (aZ (aV (.inl rfl) ?_));refine bC 0 rfl aY ?_;refine bD (aH (aH (aH bG))) ?_;exact bF rfl rfl rfl ⟨sE,r,_,_,rfl,a6,hA,hM,zY.TL A.1.row most,fun z hz=>(A.2 z hz).ZG,O,rfl⟩
 exact fun _ _ _ _ _ hZ=>hZ.elim
abbrev XO (x:Rw Fv):List Bk.Fd:=x.l.map bT
def a2U (I J:Heap) (x:Rw Fv):Prop:=KF (fun b=>I b=none) 41 FK J x.l x.v∧∀y∈x.l,FvN I J y
theorem a2U.mono{I J G x}(h:a2U I J x)(A:Le J G):a2U I G x:=⟨h.1.mono A,fun y O=>(h.2 y O).mono A⟩
theorem a2U.fds{I J x}(h:a2U I J x):a0m J x:=⟨h.1.row,fun y A=>(h.2 y A).ZG⟩
def LsN (I J:Heap) (M:List (Rw Fv)) (v:Value):Prop:=KF (fun b=>I b=none) 30 WH J M v∧∀x∈M,a2U I J x
theorem LsN.mono{I J G M v}(h:LsN I J M v)(A:Le J G):LsN I G M v:=⟨h.1.mono A,fun x O=>(h.2 x O).mono A⟩
theorem LsN.ls{I J M v}(h:LsN I J M v):LsS J M v:=⟨h.1.row,fun x A=>(h.2 x A).fds⟩
def a9s (I:Heap) (x:Rw Fv):Prop:=zY FK I x.l x.v∧∀y∈x.l,zY GY I y.f.p y.v
theorem a9s.mono{I G x}(h:a9s I x)(A:Le I G):a9s G x:=⟨h.1.mono A,fun y O=>(h.2 y O).mono A⟩
def LsA (I:Heap) (L:List (Rw Fv)) (v:Value):Prop:=zY WH I L v∧∀x∈L,a9s I x
theorem LsA.mono{I G L v}(h:LsA I L v)(A:Le I G):LsA G L v:=⟨h.1.mono A,fun x O=>(h.2 x O).mono A⟩
theorem a3z{α:Type}{l:List α}{k n}(A:k≤n)(h:l.length≤k∨n≤k):l.take k=l.take n:=by
 rcases h with g|g
 ·rw[bZ g,bZ oM]
 rw[show k=n by omega]
theorem a6Z{α:Type}{P:α→Prop}{l x}(h:∀y∈l,P y)(A:P x):∀y∈l++[x],P y:=fun y G=>(fD.1 G).elim (h y) fun e=>by rw[dL.1 e];exact A
theorem a7r{L:List (Rw Fv)}{k r}(h:L[k]?=some r):((L.take (k+1)).map XO).map dM=((L.take k).map XO).map dM++[dM (XO r)]:=by
 rw[dF,h,bH,bH];rfl
theorem c2E{l:List Fv}{j x}(h:l[j]?=some x):((l.take (j+1)).map bT).map eP=((l.take j).map bT).map eP++[eP x.f]:=by
 rw[dF,h,bH,bH];rfl
theorem b5d{l:List Fv}{j}(h:l.take j=l.take 12):((l.take j).map bT).map eP=dM (l.map bT):=by
 rw[h,dZ];rfl
theorem KA{α:Type}(f:α→List Value) l x:(l++[x]).flatMap f=l.flatMap f++f x:=sI
theorem b1w L v I (hL:LsA I L v):yT dR 14 [v] I []
 (fun e I' H'=>∃M w,e= .returned w∧LsN I I' M w∧M.map XO=dW (L.map XO)∧H'=[]):=by
 obtain⟨pL,cL,rfl,_,-⟩:=id hL.1;refine yT.ob func14 ?_;intro w0 a7;refine Cj.sr (aK yQ ?_);refine J.yV (aK yQ ?_);refine J.AO (bJ (aK yQ ?_));refine J.ns (dI (Cj.loop (ι:=Nat×Heap×List (Rw Fv)×Gs) (fun y=>y.1≤L.length∧y.1≤6∧LsA y.2.1 L (.slice pL L.length cL)∧(∀z∈y.2.2.1,a2U I y.2.1 z)∧y.2.2.1.map XO=((L.take y.1).map XO).map dM∧CU w0.heap.size 1 y.2.2.1.length (y.2.2.1.flatMap WH) y.2.2.2) (fun y=>6-y.1) (fun y=>[(0,.slice pL L.length cL),(3,gV y.2.2.1.length y.2.2.2),(4,i64 (y.1:Int))]) (fun y=>y.2.1) (fun y=>gH 30 (y.2.2.1.flatMap WH) y.2.2.2) (0,_,[],none) ⟨bM _,bM _,hL,fun _ h=>(by cases h),rfl,rfl,rfl⟩ rT rfl rfl ?_));rintro⟨k,J1,M,g⟩ ⟨hk,ad,hL,hM,hc,hg⟩;dsimp only at hk ad hL hM hc hg ⊢;have bh:M.length=k:=by have h9:=zD List.length hc;simp only[aJ,dH]at h9;omega
 refine dG (Cj.sr (aK yP ?_));refine aK yP ?_;refine aK (AU c1n) ?_;refine aK BM ?_;refine aK yP ?_;refine J.split 12 rfl (fun a3=>?_) (fun a3=>?_)
 rotate_left
 ·have ar:=BN a3;refine zO 4 12 13 true a3 ?_;refine zO 4 12 14 true a3 ?_;refine aK (DV a3) ?_;refine J.c0 (fun _=>?_);refine Cj.xl (Cj.sr (aK yP ?_));refine aK yQ ?_;refine J.ns (aZ ?_);have ae:M.map XO=dW (L.map XO):=by rw[hc,a3z ad (oM:L.length≤k∨6≤k),dZ];rfl
  refine fP (H':=gH 30 (M.flatMap WH) g++[]) (.of_eq (dQ _)) ?_;refine Ej.XZ a5r dE hg rfl (fun I8 A a1=>?_);refine zN ?_;exact⟨M,_,rfl,⟨a1.imp (fun b hb=>a7.dom hb),fun z hz=>(hM z hz).mono A⟩,ae,rfl⟩
 have ar:=BH a3;refine zU 4 12 true a3 (zK yP ?_);refine zU 4 12 true a3 (zK BM ?_);refine aK (DY a3) ?_;refine J.cd (fun af=>?_) (fun af=>?_)
 ·have au:=BH af;refine Cj.ks (dG (dI (dG ?_)));have am:k<L.length:=oM;have bf:k<6:=oM;obtain⟨⟨rl,ra,rc⟩,a5⟩:∃r,L[k]?=some r:=⟨_,DX am⟩;obtain⟨_,_,b3,_,hp⟩:=id hL.1;cases b3;obtain⟨fb,fo,_,_,_,_,rfl,a2,an⟩:=hp (AX am);have hr:=hL.2 _ (FB a5);refine bJ (aK yQ ?_);refine J.AO (bJ (aK yQ ?_));refine J.ns (dI (Cj.loop (ι:=Nat×Heap×List Fv×Gs) (fun y=>y.1≤rl.length∧y.1≤12∧Le J1 y.2.1∧(∀z∈y.2.2.1,FvN I y.2.1 z)∧y.2.2.1.map bT=((rl.take y.1).map bT).map eP∧CU w0.heap.size 4 y.2.2.1.length (y.2.2.1.flatMap FK) y.2.2.2) (fun y=>12-y.1) (fun y=>[(0,.slice (some ⟨fb,fo,none⟩) L.length cL),(3,gV M.length g),(4,i64 (k:Int)),(5,gV y.2.2.1.length y.2.2.2),(6,i64 (y.1:Int))]) (fun y=>y.2.1) (fun y=>gH 41 (y.2.2.1.flatMap FK) y.2.2.2++gH 30 (M.flatMap WH) g) (0,_,[],none) ⟨bM _,bM _,aB _,fun _ h=>(by cases h),rfl,rfl,rfl⟩ rT rfl rfl ?_));rintro⟨j,_,l,_⟩ ⟨hj,aa,a0,hN,a8,ab⟩;dsimp only at hj aa a0 hN a8 ab ⊢;have bi:l.length=j:=by have h9:=zD List.length a8;simp only[aJ,dH]at h9;omega
  have hL:=hL.mono a0;have hM:=fun x9 Z=>(hM x9 Z).mono a0;have a2:=a0 _ _ a2;have hr:=hr.mono a0;refine dG (Cj.sr (aK yP ?_));refine aK yP ?_;refine aK yP ?_;refine aK (BG (off':=fo+k) c1n sizeOf98) ?_;refine aK (EN isAgg98 (yR.TS a2) (XG an a5)) ?_;refine J.eqv 22 rfl (show _= .slice ra rl.length rc from rfl) ?_;refine aK (AU underlying98) ?_;refine aK BM ?_;refine aK yP ?_;refine J.split 25 rfl (fun a4=>?_) (fun a4=>?_)
  rotate_left
  ·have av:=BN a4;refine zO 7 25 26 true a4 ?_;refine zO 7 25 27 true a4 ?_;refine aK (DV a4) ?_;refine J.c0 (fun _=>?_);refine Cj.xl ?_;have a6:dM (XO ⟨rl,ra,rc⟩)=XO ⟨l,none,0⟩:=by show _=l.map bT;rw[a8,b5d (a3z aa oM)]
   refine Cj.XZ EO dE ab rfl (fun I8 A a1=>?_);have hL:=hL.mono A;have hM:=fun x9 Z=>(hM x9 Z).mono A;have a2:=A _ _ a2;have hr:=hr.mono A;have hN:=fun x9 Z=>(hN x9 Z).mono A;have a0:=a0.mono A;obtain⟨pw,cw,a9⟩:=rowLen a1.row;refine Cj.eqv 5 rfl (show _= .slice pw l.length cw from a9) ?_;rw[a9]at a1;have ag:a2U I _ (⟨l,pw,cw⟩:Rw Fv):=⟨a1.imp fun b hb=>a7.dom hb,hN⟩;refine bJ (aK yP ?_);refine aK yP ?_;refine bV rfl (AZ XT a2l a8L (eX rfl cZ) ?_);intro _ _;refine bV rfl (BJ (by':=23) [_] rfl rfl rfl rfl rfl XT (.inr ⟨_,XT⟩) kR a2l a8L rfl hg rfl (dK (yR.at 0 rfl) rfl rfl rfl) oM ?_);intro b4 aw;refine aK yQ ?_;refine J.nb (bJ (aK yP ?_));refine aK (yZ rfl rfl rfl (AA oM)) ?_;refine aK yQ ?_;refine J.nil (fK (aH fM) ?_);refine eY (k+1,_,M++[⟨l,pw,cw⟩],b4) ⟨dO,dO,hL,a6Z hM ag,by dsimp only;rw[a7r a5,bH,hc,dD,a6],by dsimp only;rw[KA,aS];exact aw⟩ dO ⟨rfl,by dsimp only;rw[aS];rfl,rfl,trivial⟩ rfl (by dsimp only;rw[KA];rfl)
  have av:=BH a4;refine zU 7 25 true a4 (zK yP ?_);refine zU 7 25 true a4 (zK BM ?_);refine aK (DY a4) ?_;refine J.cd (fun ah=>?_) (fun ah=>?_)
  ·have ax:=BH ah;refine Cj.ks (dG (dI (dG ?_)));have ai:j<rl.length:=oM;have be:j<12:=oM;obtain⟨x,aj⟩:∃x,rl[j]?=some x:=⟨_,DX ai⟩;obtain⟨_,_,ay,_,b5⟩:=id hr.1;cases ay;obtain⟨rb,ro,_,_,_,_,rfl,ak,b6⟩:=b5 (AX ai);have ac:=hr.2 x (FB aj);have bj:x.f.p.length≤x.c:=by
    obtain⟨_,_,az,hc6,-⟩:=id ac;cases az;exact hc6
   refine bJ (aK yP ?_);refine aK yP ?_;refine aK (BG (off':=fo+k) c1n sizeOf98) ?_;refine aK (EN isAgg98 (yR.TS a2) (XG an a5)) ?_;refine J.eqv 34 rfl (show _= .slice (some ⟨rb,ro,none⟩) rl.length rc from rfl) ?_;refine aK yP ?_;refine aK (BG (off':=ro+j*4) underlying98 sizeOf100) ?_;refine aK (FH isAgg100 sizeOf100 (yR.TS ak) (EJ EO b6 aj)) ?_;refine bV rfl (BP zeroValue100 ?_);intro _ _;refine bV rfl (zS 0 sizeOf100 (aI (aI (aI (aI aQ)))) aY ?_);refine J.ns (fE [0] [] 21 kR ?_);refine gG ⟨(aA 0 rfl aF),aG,(aB _)⟩ (fun O=>?_);refine bI 0 rfl O yP ?_;refine bI 1 rfl O (qq2 (off':=0) a7s AB) ?_;refine bI 2 rfl O (yX DT (eU 0 rfl)) ?_;refine bI 3 rfl O (qq2 (off':=1) a7s AB) ?_;refine bI 4 rfl O (yX DT (eU 0 rfl)) ?_;refine bI 5 rfl O (zV (pl:= #[(0,1),(1,1)]) rfl rfl QZ rfl WX (fun w=>by simp[AB]) (aP rfl rfl rfl (aI aQ) (aP rfl rfl rfl (aX (aI aQ)) bW))) ?_;refine bI 6 rfl O (qq2 (off':=2) a7s zL) ?_;refine bI 7 rfl O (yX BX (eU 0 rfl)) ?_;refine bI 9 rfl O (qq2 (off':=3) a7s IG) ?_;refine bI 10 rfl O (yX MX (eU 0 rfl)) ?_;refine bI 11 rfl O (qq2 (off':=3) a7s IG) ?_;refine bI 12 rfl O (yX MX (eU 0 rfl)) ?_;refine bI 13 rfl O (AU JW) ?_;refine bI 14 rfl O (LV rfl rfl rfl) ?_;refine bI 15 rfl O (LG (k:=(min x.f.p.length 4)) rfl rfl rfl JW AB (by split<;>omega) oM) ?_;refine zT 8 rfl (a8R rfl rfl rfl JW AB ?_);intro b7 b8;refine⟨⟨(aB _),(aA 1 rfl aF),aG⟩,?_⟩;refine JA.perm (H':=([_]++(gH _ _ _++gH _ _ _))++gH 3 [] (some (b7,0,[]))) (bQ (l₁:=([_]++(gH _ _ _++gH _ _ _))) (l₂:=[_])) ?_;have ao:=zY.take ac (fC x.f.p.length 4);rw[a3K]at ao;have bg:(x.f.p.take 4).length≤4:=by rw[dH];omega
   refine zT 16 rfl (BJ (by':=7) (n:=0) (g:=some (b7,0,[])) (xs:=[]) ([_]++(gH _ _ _++gH _ _ _)) rfl rfl rfl rfl rfl JW (.inr ⟨_,JW⟩) kR AB RQ rfl ⟨b8,rfl,rfl⟩ rfl (Src.row LP ao (fun x _=>a2N x)) oM ?_);intro gp b9;refine⟨⟨(aB _),(aA 0 rfl aF),aG⟩,?_⟩;refine JA.perm (H':=gH 3 ((x.f.p.take 4).flatMap GY) gp++([_]++(gH _ _ _++gH _ _ _))) bQ ?_;refine JA.XZ LP dE b9 oM (fun _ G al=>?_);have hL:=hL.mono G;have hM:=fun x9 Z=>(hM x9 Z).mono G;have a2:=G _ _ a2;have hr:=hr.mono G;have hN:=fun x9 Z=>(hN x9 Z).mono G;have a0:=a0.mono G;have ak:=G _ _ ak;have ac:=ac.mono G;obtain⟨pz,cz,ap⟩:=rowLen al.row;have aq:=a5D (0+(x.f.p.take 4).length) gp;refine JA.eqv 54 rfl (show _= .slice pz (x.f.p.take 4).length cz from ap) ?_;rw[ap]at al aq;have ba:FvN I _ (⟨⟨x.f.t,x.f.k,x.f.p.take 4⟩,pz,cz⟩:Fv):=⟨al.imp fun b hb=>a7.dom hb,aq⟩;refine gG ⟨(aA 0 rfl aF),aG,(aC (aB _) G)⟩ (fun bb=>?_);refine bI 17 rfl bb (zV (pl:= #[(0,2),(2,1),(3,1)]) rfl rfl NQ rfl GI (fun w=>by simp[AY,IG,zL]) (aP rfl rfl rfl (aI (aI aQ)) (aP rfl rfl rfl (aX (aX (aI aQ))) (aP rfl rfl rfl (aX (aX (aX (aI aQ)))) bW)))) ?_;refine zT 18 rfl (AZ EW EL NQ (dY rfl cZ) ?_);intro _ _;refine⟨⟨(aC (aB _) G),(aA 1 rfl aF),aG⟩,?_⟩;refine JA.perm (H':=[_,_]++(gH _ _ _++gH _ _ _)) (NV [_,_] _ _) ?_;refine zT 19 rfl (BJ (by':=55) ([_,_]++gH _ _ _) rfl rfl rfl rfl rfl EW (.inr ⟨_,EW⟩) kR EL NQ rfl ab rfl (dK (yR.at 0 rfl) rfl rfl (c5V _)) oM ?_);intro bc b0;refine⟨⟨(aC (aB _) G),(aA 1 rfl aF),aG⟩,?_⟩;refine gG ⟨(aA 1 rfl aF),aG,(aC (aB _) G)⟩ (fun b1=>?_);refine bI 20 rfl b1 yQ ?_;refine AL ?_;refine eH (bK (bJ (aK yP ?_)));refine aK (yZ rfl rfl rfl (AA oM)) ?_;refine aK yQ ?_;refine J.nil (fP (NV [_,_] (gH _ _ _) (gH _ _ _)) ?_);refine fK (aH (aH fM)) ?_;refine eY (j+1,_,l++[⟨⟨x.f.t,x.f.k,x.f.p.take 4⟩,pz,cz⟩],bc) ⟨dO,dO,a0,a6Z hN ba,by dsimp only;rw[c2E aj,bH,a8];rfl,by dsimp only;rw[KA,aS];exact b0⟩ dO ⟨rfl,rfl,rfl,by dsimp only;rw[aS];rfl,rfl,trivial⟩ rfl (by dsimp only;rw[KA];rfl)
  ·have ax:=BN ah;refine Cj.xl ?_;have a6:dM (XO ⟨rl,ra,rc⟩)=XO ⟨l,none,0⟩:=by show _=l.map bT;rw[a8,b5d (a3z aa oM)]
   refine Cj.XZ EO dE ab rfl (fun I8 A a1=>?_);have hL:=hL.mono A;have hM:=fun x9 Z=>(hM x9 Z).mono A;have a2:=A _ _ a2;have hr:=hr.mono A;have hN:=fun x9 Z=>(hN x9 Z).mono A;have a0:=a0.mono A;obtain⟨pw,cw,a9⟩:=rowLen a1.row;refine Cj.eqv 5 rfl (show _= .slice pw l.length cw from a9) ?_;rw[a9]at a1;have ag:a2U I _ (⟨l,pw,cw⟩:Rw Fv):=⟨a1.imp fun b hb=>a7.dom hb,hN⟩;refine bJ (aK yP ?_);refine aK yP ?_;refine bV rfl (AZ XT a2l a8L (eX rfl cZ) ?_);intro _ _;refine bV rfl (BJ (by':=23) [_] rfl rfl rfl rfl rfl XT (.inr ⟨_,XT⟩) kR a2l a8L rfl hg rfl (dK (yR.at 0 rfl) rfl rfl rfl) oM ?_);intro bd b2;refine aK yQ ?_;refine J.nb (bJ (aK yP ?_));refine aK (yZ rfl rfl rfl (AA oM)) ?_;refine aK yQ ?_;refine J.nil (fK (aH fM) ?_);refine eY (k+1,_,M++[⟨l,pw,cw⟩],bd) ⟨dO,dO,hL,a6Z hM ag,by dsimp only;rw[a7r a5,bH,hc,dD,a6],by dsimp only;rw[KA,aS];exact b2⟩ dO ⟨rfl,by dsimp only;rw[aS];rfl,rfl,trivial⟩ rfl (by dsimp only;rw[KA];rfl)
 have au:=BN af;refine Cj.xl (Cj.sr (aK yP ?_));refine aK yQ ?_;refine J.ns (aZ ?_);have ae:M.map XO=dW (L.map XO):=by rw[hc,a3z ad (oM:L.length≤k∨6≤k),dZ];rfl
 refine fP (H':=gH 30 (M.flatMap WH) g++[]) (.of_eq (dQ _)) ?_;refine Ej.XZ a5r dE hg rfl (fun I8 A a1=>?_);refine zN ?_;exact⟨M,_,rfl,⟨a1.imp (fun b hb=>a7.dom hb),fun z hz=>(hM z hz).mono A⟩,ae,rfl⟩
theorem a5S{M X}(h:M.map XO=dW X):flt bT M=(dW X).flatten∧M.length≤6∧(flt bT M).length≤72∧fG (flt bT M)≤288:=by
 have h1:flt bT M=(M.map XO).flatten:=List.flatMap_def;have h2:M.length=(dW X).length:=by rw[←h,aJ]
 have h3:=Bk.b6r X;rw[h1,h];exact⟨rfl,oM,h3.2.1,h3.2.2⟩
theorem c0Z{xs}{r:List Fv}(h:Bk.JR xs (r.map bT))(h1:xs.length≤72)(h2:fG xs≤288):r.length≤72∧fG (r.map bT)≤20736∧∀z∈r,z.f.p.length≤288:=by
 have h3:=h.bound h1 h2;rw[aJ]at h3;exact⟨h3.1,h3.2.1,fun z hz=>h3.2.2 _ (List.mem_map_of_mem hz)⟩
end Go.Proofs.YtojdemmgkdokmaaGreatDoor
namespace Ke
def b1O (f:JC):JC:={ f with sv:= .slice none 0 0 }
def nrm (fs:List JC):List JC:=fs.map b1O
theorem a1u{g}(hg:∀f,(g f).tag=f.tag) tag:∀fs:List JC,find (fs.map g) tag=(find fs tag).map g
 |[]=>rfl
 |f::r=>by
  have A:=a1u hg tag r;unfold find at A ⊢;rw[eF]
  by_cases h:f.tag=tag
  ·rw[dS (by rw[hg];simpa using h),dS (by simpa using h)];rfl
  rw[dU (by rw[hg];simpa using h),dU (by simpa using h),A]
theorem b8h {g : JC → JC} (hg : ∀ f, (g f).tag = f.tag) (hz : g zf = zf) (tag : Bs) (fs : List JC) : first (fs.map g) tag = g (first fs tag) := by
  unfold first
  rw [a1u hg]
  cases find fs tag with
  | none => exact hz.symm
  | some f => rfl
theorem a9E (fs : List JC) (tag : Bs) : first (nrm fs) tag = b1O (first fs tag) := b8h (g := b1O) (fun _ => rfl) rfl tag fs
theorem b8b(fs:List JC):title (nrm fs)=title fs:=by unfold title;rw[a9E];rfl
theorem b4H(fs:List JC):all (nrm fs)=all fs:=by
 have h1:(nrm fs).flatMap books=fs.flatMap books:=by unfold nrm;rw[fA];rfl
 have h2:a0x (nrm fs)=a0x fs:=by unfold a0x;rw[b8b,a9E];rfl
 unfold all raw;rw[h1,h2]
end Ke
namespace Bk
open Ix
def N0:fB:= .slice none 0 0
def bkT (t:List UInt8) (w:fB):dX:=⟨[50,52,53],[49,48],[],w,[⟨97,t⟩]⟩
def bkA (a:List UInt8) (w:fB):dX:=⟨[49,48,48],[49,32],[],w,[⟨97,a⟩]⟩
def bk (t a:List UInt8) (w1 w2:fB):List dX:=if a≠[]then[bkT t w1,bkA a w2]else[bkT t w1]
theorem c6j t h A:bk t [] h A=[bkT t h]:=rfl
theorem c6P{a}(h:a≠[]) t A G:bk t a A G=[bkT t A,bkA a G]:=zG h
theorem b9R t a h A:Ke.nrm (bk t a h A)=Ke.nrm (bk t a N0 N0):=by
 unfold bk
 split<;>rfl
theorem b0n fs:vals (Ke.nrm fs)=vals fs:=by
 unfold vals Ke.nrm;rw[fA];rfl
theorem a8U t a h A:vals (bk t a h A)=vals (bk t a N0 N0):=by
 rw[←b0n (bk t a h A),b9R,b0n]
theorem b2M t a h A:keyOf (bk t a h A)=keyOf (bk t a N0 N0):=by
 unfold keyOf;rw[←Ke.b4H (bk t a h A),b9R,Ke.b4H]
theorem b1s{es A}(h:es.map (fun e=>(e.1,vals e.2,keyOf e.2))=A.map (fun e=>(e.1,vals e.2,keyOf e.2))):PN es=PN A:=by
 have h1:∀l:List (Rec×List dX),PN l=⟨a1g ((l.map fun e=>(e.1,vals e.2,keyOf e.2)).map fun x=>(x.1,x.2.1)) [],fun t=>((l.map fun e=>(e.1,vals e.2,keyOf e.2)).foldl (fun o x=>if x.1=t then some x.2.2 else o) none).getD []⟩:=fun l=>by
  unfold PN a2k;simp only[gI,List.foldl_map];rfl
 rw[h1,h1,h]
def a8d:List UInt8:=[69,109,109,97]
def a2C:List UInt8:=[65,117,115,116,101,110,44,32,74,97,110,101]
def b3G:List UInt8:=[83,101,97,32,115,116,111,114,105,101,115]
def a7T:List UInt8:=[69,77,77,65,46]
def a8h:List UInt8:=[65,117,115,116,101,110]
def LA:Lb:=PN [((1,1),bk a8d a2C N0 N0),((1,2),bk b3G [] N0 N0)]
def LB:Lb:=PN [((2,7),bk a7T a8h N0 N0)]
theorem c7b u x v y:PN [((1,1),bk a8d a2C u x),((1,2),bk b3G [] v y)]=LA:=b1s (by
 simp only[eF,gJ];rw[a8U a8d a2C u x,a8U b3G [] v y,b2M a8d a2C u x,b2M b3G [] v y])
theorem c7q u x:PN [((2,7),bk a7T a8h u x)]=LB:=b1s (by
 simp only[eF,gJ];rw[a8U a7T a8h u x,b2M a7T a8h u x])
def s1:List UInt8:=[116,105,116,108,101,32,61,32,101,109,109,97]
def s2:List UInt8:=[97,110,121,32,61,32,115,116,111,114,105,101,115]
def s3:List UInt8:=[116,105,116,108,101,32,61,32]
def s4:List UInt8:=[101,109,109,97]
def K1:List UInt8:=[116,105,116,108,101,32,101,109,109,97,32,47,32,97,117,115,116,101,110]
def K2:List UInt8:=[116,105,116,108,101,32,115,101,97,32,115,116,111,114,105,101,115,32,47,32]
theorem c2z{p b k fs e}(h:ans p (some b) k fs e)(A:p.2.2=0){r}(hr:QI b.L p.1 r){gs}(hg:found b r k=gs):fs=gs∧e=0:=by
 unfold ans at h;rw[zF (fun g=>g A)]at h;obtain⟨h1,s,h2,h3⟩:=h;obtain rfl:s=r:=h2.eq hr;exact⟨h3.trans hg,h1⟩
theorem c2J{p k fs e}(h:ans p none k fs e)(A:p.2.2=0):fs=[]∧e=32:=by
 unfold ans at h;rw[zF (fun g=>g A)]at h;exact h
theorem b5C{p o k fs e}(h:ans p o k fs e)(A:p.2.2=40):fs=[]∧e=40:=by
 unfold ans at h;rw[zG (by rw[A];decide),A]at h;exact h
theorem a3o{xs r s}(h:JR xs r)(A:a2s xs=s)(hs:s.Pairwise fun p q=>OO q p=false):r=s:=h.uniq (c4R (.of_eq A.symm) hs)
theorem p1:(bP s1).2.2=0:=by decide +kernel
theorem p2:(bP s2).2.2=0:=by decide +kernel
theorem p3:(bP s3).2.2=40:=by decide +kernel
theorem p4:(bP s4).2.2=0:=by decide +kernel
theorem b7t{t}(h:t∈LA.L.map (·.1)):t=(1,1)∨t=(1,2):=by
 have h:t∈[((1,1):Rec),(1,2)]:=h;simpa only[aO,aN,or_false]using h
theorem c3O{t}(h:t∈LB.L.map (·.1)):t=(2,7):=by
 have h:t∈[((2,7):Rec)]:=h;simpa only[aO,aN,or_false]using h
theorem rA1:QI LA.L (bP s1).1 [(1,1)]:=a1s (aW _ _) (fun t h=>by rcases b7t h with rfl|rfl<;>decide +kernel) (by decide +kernel)
theorem rB1:QI LB.L (bP s1).1 [(2,7)]:=a1s (aW _ _) (fun t h=>by rcases c3O h with rfl;decide +kernel) (by decide +kernel)
theorem rA2:QI LA.L (bP s2).1 [(1,2)]:=a1s (aW _ _) (fun t h=>by rcases b7t h with rfl|rfl<;>decide +kernel) (by decide +kernel)
theorem rB2:QI LB.L (bP s2).1 []:=a1s .nil (fun t A=>by rcases c3O A with rfl;decide +kernel) (fun _ h=>by cases h)
theorem rA4:QI LA.L (bP s4).1 [(1,1)]:=a1s (aW _ _) (fun t h=>by rcases b7t h with rfl|rfl<;>decide +kernel) (by decide +kernel)
theorem fA1:found LA [(1,1)] 0=[⟨(1,1),K1,[0]⟩]:=by decide +kernel
theorem fB1:found LB [(2,7)] 1=[⟨(2,7),K1,[1]⟩]:=by decide +kernel
theorem fA2:found LA [(1,2)] 0=[⟨(1,2),K2,[0]⟩]:=by decide +kernel
theorem m1{r}(h:JR [⟨(1,1),K1,[0]⟩,⟨(2,7),K1,[1]⟩] r):r=[⟨(1,1),K1,[0,1]⟩]:=a3o h (by decide +kernel) (aW _ _)
theorem m2{r}(h:JR [⟨(1,2),K2,[0]⟩] r):r=[⟨(1,2),K2,[0]⟩]:=a3o h (by decide +kernel) (aW _ _)
theorem m3{r}(h:JR [] r):r=[]:=a3o h rfl .nil
theorem m4{r}(h:JR [⟨(1,1),K1,[0]⟩] r):r=[⟨(1,1),K1,[0]⟩]:=a3o h (by decide +kernel) (aW _ _)
theorem sc1:(allL [([97],1),([99],2),([97],3),([98],1)]).take 2=[([97],4),([98],1)]:=by decide +kernel
end Bk
namespace Go.Proofs.YtojdemmgkdokmaaGreatDoor
open _root_.Go.Proofs.Tryz
open Go Go.Sx
open Bk
theorem a8J n m t a I:yT dR 20 [i64 n,i64 m,str t,str a] I []
 (fun e I' H'=>∃w w1 w2,e= .returned (.agg (TQ ⟨(n,m),0,0,w,Bk.bk t a w1 w2⟩).toArray)∧QW I' (Bk.bk t a w1 w2) w∧H'=[]):=by
 refine yT.ob func20 ?_;intro w0 _;refine Cj.sr (bV rfl (BP a1r ?_));intro _ _;refine J.yV (aK yP ?_);refine aK (zV (pl:= #[(0,1),(1,1)]) rfl rfl a1y rfl a0o (fun w=>by simp[RF,zL]) (aP rfl rfl rfl (aI aQ) (aP rfl rfl rfl (aX (aI aQ)) bW))) ?_;refine bV rfl (AZ WY UK a1y (dY rfl cZ) ?_);intro G a2;refine aK (zV (pl:= #[(0,1),(1,1),(2,1),(3,1)]) rfl rfl UC rfl KW (fun w=>by simp[ZU,zL]) (aP rfl rfl rfl (aI aQ) (aP rfl rfl rfl (aX (aI aQ)) (aP rfl rfl rfl (aX (aX (aX (aI aQ)))) bW)))) ?_;refine bV rfl (AZ QA GV UC (dY rfl cZ) ?_);intro b3 a3;refine aK (zV (pl:= #[(0,1),(1,1),(2,1)]) rfl rfl zeroValue55 rfl VX (fun w=>by simp[RF,SQ]) (aP rfl rfl rfl (aX (aX (aI aQ))) bW)) ?_;refine bV rfl (BP zeroValue55 ?_);intro _ _;refine bV rfl (zS 0 MG (aI (aI (aI aQ))) aY ?_);refine J.AO (bJ (aK yP ?_));refine aK (LH rfl rfl rfl) ?_;refine J.cd (fun A=>?_) (fun A=>?_)
 ·have a4:=bne_iff_ne.1 A;refine fH (dJ (dJ dN)) ?_;refine Cj.persist a2 (fun _ _ h=>?_);refine fH (dJ dN) ?_;refine fO (H':=[_,_]++[_]) (bQ (l₁:=[_,_]) (l₂:=[_])) ?_;refine bJ (aK (qq2 (off':=2) VX SQ) ?_);refine aK (yX a1z (yR.at 0 rfl)) ?_;refine aK yP ?_;refine aK (zV (pl:= #[(0,1),(1,1)]) rfl rfl a1y rfl a0o (fun w=>by simp[RF,zL]) (aP rfl rfl rfl (aI aQ) (aP rfl rfl rfl (aX (aI aQ)) bW))) ?_;refine bV rfl (AZ WY UK a1y (dY rfl cZ) ?_);intro b8 a8;refine aK (zV (pl:= #[(0,1),(1,1),(2,1),(3,1)]) rfl rfl UC rfl KW (fun w=>by simp[ZU,zL]) (aP rfl rfl rfl (aI aQ) (aP rfl rfl rfl (aX (aI aQ)) (aP rfl rfl rfl (aX (aX (aX (aI aQ)))) bW)))) ?_;refine bV rfl (AZ QA GV UC (dY rfl cZ) ?_);intro _ _;refine bV rfl (BJ (by':=71) (n:=1) (g:=some (b3,1,[])) (xs:=SB (Bk.bkT t (.slice (some ⟨G,0,none⟩) 1 1))) [_,_,_,_] rfl rfl rfl rfl rfl QA (.inr ⟨_,QA⟩) kR GV UC rfl ⟨a3,rfl,rfl⟩ rfl (dK (yR.at 0 rfl) rfl rfl rfl) oM ?_);intro a9 a5;refine aK (qq2 (off':=2) VX SQ) ?_;refine bV rfl (EM 2 rfl rfl rfl rfl (KR _ _) (QO _ _) SQ rfl rfl (aX (aX (aI aQ))) (cO (cO aY)) ?_);refine J.yV (aK yP ?_);refine aK yP ?_;refine aK (zV (pl:= #[(0,1),(1,1)]) rfl rfl QZ rfl WX (fun w=>by simp[AB]) (aP rfl rfl rfl (aI aQ) (aP rfl rfl rfl (aX (aI aQ)) bW))) ?_;refine aK (zX a0n MG (yR.at 2 rfl)) ?_;refine aK (zV (pl:= #[(0,2),(2,3)]) rfl rfl a1r rfl QX (fun w=>by simp[AY,MG]) (aP rfl rfl rfl (aI (aI aQ)) (aP rfl rfl rfl (aX (aX (aI (aI (aI aQ))))) bW))) ?_;refine bV rfl (EM 3 rfl rfl rfl rfl rfl (by first|rfl|(show[i64 n,i64 m,u8 0,u8 0,gV _ _].all fQ=true;simp only[fV,gK,a2H,fZ];rfl)) OQ rfl rfl (aI (aI (aI (aI (aI aQ))))) (cO (cO (cO aY))) ?_);refine J.ns (aZ (fJ (dJ dN) ?_));refine fF a8 (fun _ a0 a6=>?_);have h:=a0 _ _ h;have O:a≠[]:=bne_iff_ne.1 A;refine fP (H':=gH 60 (([Bk.bkT t (.slice (some ⟨G,0,none⟩) 1 1),Bk.bkA a (.slice (some ⟨b8,0,none⟩) 1 1)]:List dX).flatMap SB) a9++[_,_,_]) bQ ?_;refine Ej.keepR (l:=([Bk.bkT t (.slice (some ⟨G,0,none⟩) 1 1),Bk.bkA a (.slice (some ⟨b8,0,none⟩) 1 1)]:List dX)) PY dE a5 rfl (fun _ Z aa=>?_);refine Ej.b3s (aH (aH (aH bG))) rfl rfl rfl (yR.at 2 rfl) isAgg57 OQ rfl ?_;refine⟨_,(.slice (some ⟨G,0,none⟩) 1 1),(.slice (some ⟨b8,0,none⟩) 1 1),rfl,?_,rfl⟩;rw[c6P O];refine⟨aa,fun f hf=>?_⟩;simp only[aO,aN,or_false]at hf;rcases hf with rfl|rfl
  ·exact fU (l:=([⟨97,t⟩]:List Ke.Sub)) (sp:=[]) (aU _) (Z _ _ h)
  exact fU (l:=([⟨97,a⟩]:List Ke.Sub)) (sp:=[]) (aU _) (Z _ _ a6)
 have a4:=EC A;refine Cj.ks (Cj.sr (aK yP ?_));refine aK yP ?_;refine aK (zV (pl:= #[(0,1),(1,1)]) rfl rfl QZ rfl WX (fun w=>by simp[AB]) (aP rfl rfl rfl (aI aQ) (aP rfl rfl rfl (aX (aI aQ)) bW))) ?_;refine aK (zX a0n MG (yR.at 0 rfl)) ?_;refine aK (zV (pl:= #[(0,2),(2,3)]) rfl rfl a1r rfl QX (fun w=>by simp[AY,MG]) (aP rfl rfl rfl (aI (aI aQ)) (aP rfl rfl rfl (aX (aX (aI (aI (aI aQ))))) bW))) ?_;refine bV rfl (EM 3 rfl rfl rfl rfl rfl (by first|rfl|(show[i64 n,i64 m,u8 0,u8 0,gV _ _].all fQ=true;simp only[fV,gK,a2H,fZ];rfl)) OQ rfl rfl (aI (aI (aI (aI (aI aQ))))) (cO (cO (cO aY))) ?_);refine J.ns (aZ (fJ (dJ (dJ dN)) ?_));refine fF a2 (fun _ _ h=>?_);refine fJ (dJ dN) ?_;refine fF a3 (fun _ a1 a7=>?_);have h:=a1 _ _ h;have O:a=[]:=EC A;subst O;refine Ej.b3s (aH (aH bG)) rfl rfl rfl (yR.at 1 rfl) isAgg57 OQ rfl ?_;refine⟨_,(.slice (some ⟨G,0,none⟩) 1 1),.slice none 0 0,rfl,?_,rfl⟩;rw[c6j];refine⟨fU (l:=([Bk.bkT t (.slice (some ⟨G,0,none⟩) 1 1)]:List dX)) (sp:=[]) (aU _) a7,fun f hf=>?_⟩;rw[dL.1 hf];exact fU (l:=([⟨97,t⟩]:List Ke.Sub)) (sp:=[]) (aU _) h
end Go.Proofs.YtojdemmgkdokmaaGreatDoor
namespace Bk
open Ix
def KN (p:List Int) (f:Fd):Fd:=⟨f.t,f.k,p⟩
theorem c0u c:KU ([c]++[c])=[c]:=by
 show VZ c [c]=[c];unfold VZ;rw[zF (Int.lt_irrefl c),zG rfl]
theorem b3J id c (F:List Fd):gn id (F.map (KN [c]))=(gn id (F.map (KN [0]))).map (KN [c]):=by
 refine MV (P:=fun F=>gn id (F.map (KN [c]))=(gn id (F.map (KN [0]))).map (KN [c])) rfl (fun F x A=>?_) F;rw[bH,bH,dD,dD,a2D,a2D,A,a7d,a7d];have e:∀p,DF (KN p x)=DF x:=fun _=>rfl;rw[e,e]
 by_cases h:DF x=id
 ·rw[zG h,zG h];cases gn id (F.map (KN [0]))with
  |none=>rfl
  |some a=>
   show some (jn (KN [c] a) (norm (KN [c] x)))=some (KN [c] (jn a (norm (KN [0] x))));refine zD some ?_;show(⟨ZX a.t x.t,a.k,KU ([c]++[c])⟩:Fd)=⟨ZX a.t x.t,a.k,[c]⟩;rw[c0u]
 rw[zF h,zF h,a5u,a5u]
theorem c3V{id}{F:List Fd}{a}(h:gn id (F.map (KN [0]))=some a):a.p=[0]:=by
 have h1:=b3J id 0 F;rw[h]at h1;have h2:a=KN [0] a:=dB h1;rw[h2];rfl
theorem b9c id (F:List Fd):gn id (F.map (KN [0])++F.map (KN [2]))=(gn id (F.map (KN [0]))).map (KN [0,2]):=by
 rw[b9U,b3J id 2 F];cases h:gn id (F.map (KN [0]))with
 |none=>rfl
 |some a=>
  show some (jn a (KN [2] a))=some (KN [0,2] a);refine zD some ?_;show(⟨ZX a.t a.t,a.k,KU (a.p++[2])⟩:Fd)=⟨a.t,a.k,[0,2]⟩;rw[c0r,c3V h];rfl
theorem JR.b7g{xs r}(h:JR xs r) f:f∈r↔∃id,gn id xs=some f:=by
 rw[h.mem];unfold gn;constructor
 ·rintro⟨id,g,h1,h2⟩;exact⟨id,by rw[h1,←h2];rfl⟩
 rintro⟨id,h1⟩;cases hg:grp id xs with
 |none=>rw[hg]at h1;cases h1
 |some g=>rw[hg]at h1;exact⟨id,g,hg,dB h1⟩
theorem JR.c7D{xs r}(hs:r.Pairwise fun a b=>OO a b=true)(h:∀f,f∈r↔∃id,gn id xs=some f):JR xs r:=⟨hs,fun f=>by
 rw[h];unfold gn;constructor
 ·rintro⟨id,h1⟩;cases hg:grp id xs with
  |none=>rw[hg]at h1;cases h1
  |some g=>rw[hg]at h1;exact⟨id,g,hg,dB h1⟩
 rintro⟨id,g,h1,h2⟩;exact⟨id,by rw[h1,←h2];rfl⟩⟩
theorem c4P{F G O:List Fd}(A:JR (F.map (KN [0])) G)(Z:JR (F.map (KN [0])++F.map (KN [2])) O):O=G.map (KN [0,2]):=by
 refine Z.uniq (JR.c7D ?_ fun f=>?_)
 ·rw[List.pairwise_map];exact A.LD
 rw[eG];constructor
 ·rintro⟨g,hg,rfl⟩;obtain⟨id,h⟩:=(A.b7g g).1 hg;exact⟨id,by rw[b9c,h];rfl⟩
 rintro⟨id,h⟩;rw[b9c]at h;cases hg:gn id (F.map (KN [0]))with
 |none=>rw[hg]at h;cases h
 |some a=>rw[hg]at h;exact⟨a,(A.b7g a).2 ⟨id,hg⟩,dB h⟩
theorem a7i b r k:found b r k=(r.map fun t=>(⟨t,b.key t,[]⟩:Fd)).map (KN [(k:Int)]):=by
 unfold found;rw[gI];rfl
theorem a8P{r}(h:JR [] r):r=[]:=dP.1 (Nat.le_zero.1 h.len)
end Bk
namespace Cq
def tw4:List Tok→Nat
 |[]=>0
 |t::r=>t.text.length+4+tw4 r
def WL (ts:List Tok):Res→Prop
 | .ok q ts2=>q.wide+tw4 ts2≤tw4 ts
 | .err _ _=>True
theorem b8G:∀f,(∀deep ts,WL ts (clause f deep ts))∧(∀deep ts,WL ts (query f deep ts))∧∀deep q ts O A,more f deep q ts= .ok O A→O.wide+tw4 A≤q.wide+tw4 ts
 |0=>⟨fun _ _=>by simp[clause,WL],fun _ _=>by simp[query,WL],fun _ _ _ _ _ h=>by simp[more]at h⟩
 |f+1=>by
  obtain⟨Z,hq,hm⟩:=b8G f;refine⟨fun deep ts=>?_,fun deep ts=>?_,fun deep q ts O A h=>?_⟩
  ·cases ts with
   |nil=>simp[clause,WL]
   |cons t r=>
    unfold clause
    by_cases h1:lp t=true
    ·rw[zG h1]
     split
     ·trivial
     have:=hq (deep+1) r;cases hx:query f (deep+1) r with
     |err p e=>trivial
     |ok q A=>
      rw[hx]at this;cases A with
      |nil=>trivial
      |cons t2 r2=>
       simp only[]
       split
       ·simp only[WL,tw4]at this ⊢;omega
       trivial
    rw[zF h1];have bare:WL (t::r) (.ok ⟨1,[97,110,121],[61],t.text,.nil⟩ r):=by simp[WL,tw4,Qn.wide,Qs.wide];omega
    split
    ·trivial
    cases r with
    |nil=>cases t.kind == 3<;>exact bare
    |cons t2 r2=>
     cases t.kind == 3 with
     |false=>exact bare
     |true=>
      simp only[]
      split
      ·split
       ·trivial
       cases r2 with
       |nil=>trivial
       |cons t3 r3=>
        simp only[]
        split
        ·simp only[WL,tw4,Qn.wide,Qs.wide,b8a];omega
        trivial
      exact bare
  ·unfold query;have:=Z deep ts;cases hx:clause f deep ts with
   |err p e=>trivial
   |ok q A=>
    rw[hx]at this;simp only[];cases hy:more f deep q A with
    |err p e=>trivial
    |ok q3 G=>
     have h2:=hm deep q A q3 G hy;simp only[WL]at this ⊢;omega
  cases ts with
  |nil=>simp[more]at h
  |cons t r=>
   unfold more at h
   by_cases h1:operator t=0
   ·rw[zG h1]at h;cases h;exact aU _
   rw[zF h1]at h;have:=Z deep r;cases hx:clause f deep r with
   |err p e=>rw[hx]at h;cases h
   |ok q3 G=>
    rw[hx]at h this;have h2:=hm deep _ G O A h;rw[c1P]at h2;simp only[WL,tw4]at this ⊢;omega
theorem a3v:∀(n:Nat) (r:List UInt8) (p:List UInt8×Nat),r.length≤n→quoted r=some p→p.1.length≤p.2
 |0,r,p,hn,h=>by
  have:r=[]:=dP.1 oM;subst this;rw[YX]at h;cases h
 |n+1,[],p,_,h=>by rw[YX]at h;cases h
 |n+1,c::r,p,hn,h=>by
  rw[dA]at hn
  by_cases h34:c=34
  ·subst h34;rw[a2T]at h;cases h;exact bM _
  by_cases h92:c=92
  ·subst h92;cases r with
   |nil=>rw[a2q]at h;cases h
   |cons d r=>
    rw[a2W,dV]at h;obtain⟨q,hq,rfl⟩:=h;have:=a3v n r q (by rw[dA]at hn;omega) hq;simp only[dA];omega
  rw[a2u c r h34 h92,dV]at h;obtain⟨q,hq,rfl⟩:=h;have:=a3v n r q oM hq;simp only[dA];omega
theorem c2j rest j:(head rest j).1.text.length≤(head rest j).2:=by
 unfold head;cases rest with
 |nil=>exact aU _
 |cons c r=>
  dsimp only
  split
  ·cases hq:quoted r with
   |none=>exact bM _
   |some p=>obtain⟨t,n⟩:=p;exact Nat.le_succ_of_le (a3v _ r _ (aU _) hq)
  split
  ·exact aU _
  split
  ·exact aU _
  split
  ·exact aU _
  split
  ·exact aU _
  exact aU _
theorem b5V rest j (h:over (head rest j).1=true):(head rest j).1.text=[]:=by
 unfold head at h ⊢;cases rest with
 |nil=>rfl
 |cons c r=>
  dsimp only at h ⊢
  split at h
  ·rename_i h1
   rw[zG h1];cases hq:quoted r with
   |none=>rfl
   |some p=>obtain⟨t,n⟩:=p;rw[hq]at h;cases h
  rename_i h1
  rw[zF h1]
  split at h
  ·cases h
  rename_i h2
  rw[zF h2]
  split at h
  ·cases h
  rename_i h3
  rw[zF h3]
  split at h
  ·rename_i A
   rw[zG A]
  split at h<;>cases h
theorem b1Q s:∀f i,i≤s.length→tw4 (toks s f i)+5*i≤5*s.length+4
 |0,i,h=>by simp only[toks,tw4];omega
 |f+1,i,h=>by
  unfold toks
  split
  ·rename_i A
   have h1:(lex s i).1.text=[]:=b5V _ _ A;simp only[tw4,h1,List.length_nil];omega
  rename_i A
  have h2:=ZY s i h (by simpa using A);have h3:=b1Q s f (lex s i).2 h2.2;have G:(lex s i).1.text.length≤(lex s i).2-skip s i:=by
   have:=c2j (s.drop (skip s i)) (skip s i);unfold lex;dsimp only;omega
  have O:=(a9f s i h).1;simp only[tw4];omega
theorem b4l s:(parse s).1.wide≤5*s.length+4:=by
 have h1:tw4 (tokens s)≤5*s.length+4:=b1Q s _ 0 (bM _);have h:=(b8G (4*s.length+9)).2.1 0 (tokens s);have hz:zero.wide≤5*s.length+4:=bM _;unfold parse;cases hq:query (4*s.length+9) 0 (tokens s)with
 |err p e=>exact hz
 |ok q ts=>
  rw[hq]at h;cases ts with
  |nil=>exact hz
  |cons t r=>
   simp only[]
   split
   ·simp only[WL]at h;show q.wide≤_;omega
   exact hz
end Cq
namespace Go.Proofs.YtojdemmgkdokmaaGreatDoor
open _root_.Go.Proofs.Tryz
open Go Go.Sx
abbrev c3T (x:List UInt8×Int):Array Value:= #[str x.1,i64 x.2]
theorem c6A:EqK dR 80 c3T:=EqK.c3Z VT kR dE dE rfl rfl rfl rfl BF tU3 BX DT
theorem c2A{α:Type}{a b:List α}{k x y}(h:a.take k=b.take k)(A:a[k]?=some x)(G:b[k]?=some y)(O:x=y):a.take (k+1)=b.take (k+1):=by
 rw[dF,dF,A,G,h,O]
theorem b9a a b va vb (ae:a.length≤100000000000000) I (ha:zY CW I a va)(hb:zY CW I b vb):Pure dR 22 [va,vb] I (.bool (decide (a=b))):=by
 refine yT.toPure ?_;obtain⟨p1,c1,rfl,G,a6⟩:=ha;obtain⟨p2,c2,rfl,a0,a7⟩:=hb;refine yT.ob func22 ?_;intro w0 _;refine Cj.sr (aK yQ ?_);refine J.AO (bJ (aK yP ?_));refine aK (AU KL) ?_;refine aK yP ?_;refine aK (AU KL) ?_;refine aK EY ?_;refine J.cd (fun G=>?_) (fun G=>?_)
 ·have a3:=bne_iff_ne.1 G;have a8:a.length≠b.length:=by have h:=bne_iff_ne.1 G;omega
  refine Cj.sr (aK yQ ?_);refine J.ns (Cj.rs (zN ?_));rw[zJ (fun e=>a8 (by rw[e]))];exact rT
 have a3:=EC G;have ad:a.length=b.length:=by have h:=EC G;omega
 refine Cj.ks (dG (Cj.sr (aK yQ ?_)));refine J.ns (dI (Cj.loop (ι:=Nat) (fun j=>j≤a.length∧a.take j=b.take j) (fun j=>a.length-j) (fun j=>[(0,.slice p1 a.length c1),(1,.slice p2 b.length c2),(5,i64 (j:Int))]) (fun j=>_) (fun j=>[]) 0 ⟨bM _,rfl⟩ rT rfl rfl ?_));rintro j ⟨_,Z⟩;refine dG (Cj.sr (aK yP ?_));refine aK yP ?_;refine aK (AU KL) ?_;refine aK BM ?_;refine J.cd (fun a0=>?_) (fun a0=>?_)
 ·have a4:=BH a0;have a2:j<a.length:=oM;obtain⟨x,hx⟩:∃x,a[j]?=some x:=⟨_,DX a2⟩;obtain⟨y,hy⟩:∃y,b[j]?=some y:=⟨_,DX oM⟩;obtain⟨_,oa,_,_,_,_,rfl,a9,aa⟩:=a6 (AX a2);obtain⟨_,ob,EP,_,_,_,rfl,ab,ac⟩:=a7 (AX (oM:j<b.length));refine Cj.ks (dG (dI (dG (fE [] [] 9 kR ?_))));refine gG BQ (fun A=>?_);refine bI 0 rfl A yP ?_;refine bI 1 rfl A yP ?_;refine bI 2 rfl A (BG (off':=oa+j*2) KL IQ) ?_;refine bI 3 rfl A (FH YV IQ (yR.TN a9) (EJ GH aa hx)) ?_;refine bI 4 rfl A yP ?_;refine bI 5 rfl A yP ?_;refine bI 6 rfl A (BG (off':=ob+j*2) KL IQ) ?_;refine bI 7 rfl A (FH YV IQ (yR.TN ab) (EJ GH ac hy)) ?_;refine bI 8 rfl A (a9e (kv:=c3T) (a:=x) (b:=y) rfl rfl rfl rfl rfl c6A kR) ?_;refine AL ?_;refine bK (Cj.cond rfl (fun O=>?_) (fun O=>?_))
  ·have a5:=bne_iff_ne.1 O;have a1:x≠y:=bne_iff_ne.1 O;refine Cj.sr (aK yQ ?_);refine J.ns (aZ (Ej.QL (Ej.LM (Ej.OX (Ej.QL (Ej.LM (zN ?_)))))));rw[zJ (fun e=>a1 (by rw[e,hy]at hx;exact(dB hx).symm))];exact rT
  have a5:=EC O;have a1:x=y:=EC O;refine Cj.kb (bJ (aK yP ?_));refine aK (yZ rfl rfl rfl (AA oM)) ?_;refine aK yQ ?_;refine J.nil (eY (j+1) ⟨oM,c2A Z hx hy a1⟩ oM rT rfl rfl)
 have a4:=BN a0;refine Cj.xl (Cj.sr (aK yQ ?_));refine J.ns (aZ (zN ?_));rw[bZ (oM:a.length≤j),bZ (oM:b.length≤j)]at Z;rw[zI Z];exact rT
