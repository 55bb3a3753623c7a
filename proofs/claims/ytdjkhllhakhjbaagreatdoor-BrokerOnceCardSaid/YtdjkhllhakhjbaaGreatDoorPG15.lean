/-
  Own texts on the laws of the seat, joined: the logic, and contracts of functions. Conditions: none.
-/
import Derived.Test.YtdjkhllhakhjbaaGreatDoorNmG
import Derived.Test.YtdjkhllhakhjbaaGreatDoorPG14
set_option linter.all false
set_option maxRecDepth 100000
set_option maxHeartbeats 40000000
open Go.Sx.J renaming z -> aA,op -> bF,nil -> eH
open Go.Value renaming bool -> aB
open Go.Sx.JA renaming tk -> aC,tkG -> aW,tkS -> bT,fix -> bY,stepG -> eG,split -> fC,eqv -> fG
open Bool renaming noConfusion -> aF,and_eq_true -> bV,eq_iff_iff -> eP,false_eq_true -> fH,or_eq_true -> fU
open Go.Sx.Ej renaming seq -> aG,FM -> bU,JE -> bZ,JM -> dB,round -> dD,IB -> dI,OY -> dN,bare -> dP,KU -> dQ,persist -> fZ,keep -> gB
open Go.Utf8 renaming encode -> aH,decode -> bQ,valid -> dY
open Bk renaming Ln -> aI,QO -> dM,ZB -> eF
open Go.Proofs.Tryz renaming prog -> aJ
open Go.Sx.Cj renaming seq -> aK,region -> aY,cond -> aZ,block -> bG,ret -> bJ,JD -> bM,exit -> dS,loop -> eY,a3b -> iE
open Go.Lib renaming indexAny -> aN,decodeL -> dL,indexByte -> dV,contains_iff_indexByte -> dW,trimLeftS -> dX,encodeRune -> fB,idxOfS -> fV,NoAny -> gQ,validRune -> gU,mapD_step -> gW
open List renaming length_append -> aO,getElem?_eq_some_iff -> aS,length_drop -> aT,length_take -> bC,length_singleton -> bD,contains_iff_mem -> bK,isPrefixOf -> cO,take_of_length_le -> cZ,append_assoc -> dG,drop_eq_nil_of_le -> dJ,takeWhile_sublist -> eX,length_pos_iff -> fF,append_nil -> fM,length_set -> fP,tail_cons -> gG,drop_one -> gX,contains -> gY,map_nil -> gZ
open Go.Sx.Le renaming refl -> aP,trans -> bW
open Go.Sx.HSub renaming c -> aQ,n -> aU
open Go.Sx.CSub renaming n -> aV
open Eq renaming trans -> aX,symm -> bI
open Go.Sx.IC renaming one -> bH,none -> dU,agg -> iD
open Go.Sx.Enters renaming of -> bP
open Go.Sx.Pure renaming of_same -> dA,of_below -> fE
open Go.Sx.yR renaming ZU -> dF
open Nat renaming zero_le -> dH,lt_or_ge -> dR,le_refl -> eU,zero_add -> fJ,min_le_left -> fQ
open ByteArray renaming getElem_eq_getElem_data -> dK,data -> gI
open Go.Sx.Keeps renaming d -> dZ,r -> fK
open Go.Sx.Src renaming row -> fA,slice -> gJ
open Go.Sx.yS renaming toPure -> fD
open Go.Sx.DZ renaming z -> fO
open Go.Sx.zN renaming take -> gK,nil -> iC
namespace Go.Proofs.YtdjkhllhakhjbaaGreatDoor
open _root_.Go.Proofs.Tryz
open Go Go.Sx
theorem VR(x:aI):(AX x).all Value.oneCell'=true:=rfl
theorem b4r{x:aI}:∀{l:List aI} {k:Nat} {y:aI},(∀z∈l.take k,z.1<x.1)→l[k]?=some y→y.1=x.1→dM l x=l.set k (y.1,Bk.W (y.2+x.2))
 |[],_,_,_,h,_=>by simp at h
 |a::r,0,y,_,h,he=>by
  obtain rfl:a=y:=Option.some.inj h;unfold dM;rw[zF (by rw[he];exact Std.lt_irrefl),zG he];rfl
 |a::r,k+1,y,ha,h,he=>by
  unfold dM;rw[zG (ha a (.head _)),b4r (k:=k) (fun z hz=>ha z (.tail _ hz)) (by simpa using h) he];rfl
theorem a2Q{x:aI}:∀{l:List aI} {k:Nat},(∀z∈l.take k,z.1<x.1)→k≤l.length→(∀y,l[k]?=some y→¬y.1<x.1∧y.1≠x.1)→dM l x=l.take k++[x]++l.drop k
 |[],0,_,_,_=>rfl
 |[],k+1,_,h,_=>by simp at h
 |a::r,0,_,_,h=>by
  obtain⟨A,G⟩:=h a rfl;unfold dM;rw[zF A,zF G];rfl
 |a::r,k+1,ha,hk,h=>by
  unfold dM;rw[zG (ha a (.head _)),a2Q (k:=k) (fun z hz=>ha z (.tail _ hz)) (by simpa using hk) (fun y N=>h y (by simpa using N))];rfl
theorem c3y{l:List aI}{k:Nat}{y:aI}{s:List UInt8}(h:∀z∈l.take k,z.1<s)(hg:l[k]?=some y)(A:y.1<s):∀z∈l.take (k+1),z.1<s:=by
 rw[List.take_add_one,hg,Option.toList_some];intro z hz;rcases List.mem_append.1 hz with g|g
 ·exact h z g
 rw[List.mem_singleton.1 g];exact A
theorem a6i(a b:List aI)(x:aI):((([]:List Value)++a.flatMap AX)++AX x)++b.flatMap AX=(a++[x]++b).flatMap AX:=sI
theorem c2o(n:Nat)(h:Int):(if (0:Int)>(if h<(n:Int)then h else(n:Int))then(0:Int)else(if h<(n:Int)then h else(n:Int)))=((min n h.toNat:Nat):Int):=by
 repeat(first|omega|split)
structure TS where
  i:Nat
  j:Nat
  J:Heap
  ls:List Bk.Ln
  g:Gs
theorem a7E{base sz n m:Nat}{xs:List Value}{g:Gs}(h:BM base sz n xs g)(e:m=n):BM base sz m xs g:=e▸h
theorem a9j(L:List (Rw aI))(v:Value)(a3:Int)(bm:(flt id L).length≤1000000000)(c5:L.length≤1000000000)(I:Heap)(hL:TW I L v):yS aJ 14 [v,i64 a3] I []
 (fun e I' H'=>∃w,e= .returned w∧zN AX I' ((Bk.allL (flt id L)).take a3.toNat) w∧H'=[]):=by
 obtain⟨pL,cL,rfl,_,-⟩:=id hL.1;refine yS.ob func14 ?_;intro w0 _;refine Cj.sr (aA yQ ?_);refine J.yX (aA yQ ?_);refine J.zX (aY (aA yQ ?_));refine J.ns (bG (eY (ι:=TS) (fun y=>y.i≤L.length∧TW y.J L (.slice pL L.length cL)∧y.ls=Bk.allL (flt (id:aI→aI) (L.take y.i))∧BM 0 2 y.ls.length (y.ls.flatMap AX) y.g) (fun y=>L.length-y.i) (fun y=>[(0,.slice pL L.length cL),(1,i64 a3),(5,gV y.ls.length y.g),(6,i64 (y.i:Int))]) (fun y=>y.J) (fun y=>gH 41 (y.ls.flatMap AX) y.g) ⟨0,0,_,[],none⟩ ⟨dH _,hL,rfl,rfl,rfl⟩ rT rfl rfl ?_));rintro⟨i,_,_,ls,g⟩ ⟨hi,hL,hm,hg⟩;dsimp only at hi hL hm hg ⊢;refine aK (Cj.sr (aA yP ?_));refine aA yP ?_;refine aA (zZ TV) ?_;refine aA AV ?_;refine J.cd (fun an=>?_) (fun an=>?_)
 ·have ba:=BH an;have hlt:i<L.length:=oM;obtain⟨⟨rl,ra,rc⟩,a5⟩:∃r,L[i]?=some r:=⟨_,DC hlt⟩;obtain⟨_,_,ae,b4,hp⟩:=id hL.1;cases ae;obtain⟨fb,fo,bn,bo,bp,_,rfl,a2,b5⟩:=hp (zT hlt);have hr:=hL.2 _ (FQ a5);have c4:rl.length≤_:=YF (id:aI→aI) a5;refine Cj.skip (aG (aK (bG (Cj.sr (aA yQ ?_)))));refine J.ns (bG (Cj.keep fK ?_));refine eY (ι:=TS) (fun y=>y.j≤rl.length∧TW y.J L (.slice (some ⟨fb,fo,none⟩) L.length cL)∧zN AX y.J rl (.slice ra rl.length rc)∧y.J fb=some (.cells bn.toArray bo bp)∧y.ls=Bk.allL (flt (id:aI→aI) (L.take i)++(rl.take y.j).map id)∧BM 0 2 y.ls.length (y.ls.flatMap AX) y.g) (fun y=>rl.length-y.j) (fun y=>[(0,.slice (some ⟨fb,fo,none⟩) L.length cL),(1,i64 a3),(5,gV y.ls.length y.g),(6,i64 (i:Int)),(7,i64 (y.j:Int))]) (fun y=>y.J) (fun y=>gH 41 (y.ls.flatMap AX) y.g) ⟨i,0,_,ls,g⟩ ⟨dH _,hL,hr,a2,by dsimp only;rw[List.take_zero,gZ,fM];exact hm,hg⟩ rT rfl rfl ?_;rintro⟨_,j,J2,ls,g⟩ ⟨hj,hL,hr,a2,hm,hg⟩;dsimp only at hj hL hr a2 hm hg ⊢;refine aK (aK ?_);obtain⟨p7,c7,ah,am,-⟩:=id hr;cases ah;refine aY (aA yP ?_);refine aA yP ?_;refine aA yP ?_;refine aA (AU (off':=fo+i) TV a0H) ?_;refine aA (EF isAgg39 (yR.PL a2) (LV b5 a5)) ?_;refine J.eqv 21 rfl (show _= .slice ra rl.length rc from rfl) ?_;refine aA (zZ CP) ?_;refine aA AV ?_;refine J.cd (fun ao=>?_) (fun ao=>?_)
  ·have bb:=BH ao;have ap:j<rl.length:=oM;obtain⟨x,ac⟩:∃x,rl[j]?=some x:=⟨_,DC ap⟩;obtain⟨p7,c7,ah,am,bq⟩:=id hr;cases ah;obtain⟨rb,ro,_,_,_,_,rfl,af,br⟩:=bq (zT ap);obtain⟨_,ay⟩:=a3A id a5 ac;have bs:((flt (id:aI→aI) (L.take i)++(rl.take j).map id)++[x]).length≤1000000000:=by
    have h9:=bm;rw[ay,aO]at h9;exact KT (Nat.le_add_right _ _) h9
   rw[aO]at bs;have c6:ls.length≤1000000000:=by
    have h9:=Bk.b2s (flt (id:aI→aI) (L.take i)++(rl.take j).map id);rw[←hm]at h9;omega
   refine Cj.skip (aG (aK (bG (Cj.sr (aA yP ?_)))));refine aA yP ?_;refine aA (AU (off':=fo+i) TV a0H) ?_;refine aA (EF isAgg39 (yR.PL a2) (LV b5 a5)) ?_;refine J.eqv 29 rfl (show _= .slice (some ⟨rb,ro,none⟩) rl.length rc from rfl) ?_;refine aA yP ?_;refine aA (AU (off':=ro+j*2) CP CQ) ?_;refine aA (FN NS CQ (yR.PL af) (DN BL br ac)) ?_;refine bF rfl (CU GL ?_);intro b3 _;refine bF rfl (AB 0 CQ (EW.c (EW.c EW.z)) fO ?_);refine J.yX ?_;rcases g with _|⟨gb,gc,b6⟩
   ·obtain⟨bt,-⟩:=hg;obtain rfl:=List.length_eq_zero_iff.1 bt;refine aA yQ ?_;refine J.nss (bG (Cj.rounds 1 ?_));refine Rj.succ ?_;refine aK (aK (bM [0] [] 14 kR ?_));refine bY ⟨(aQ 0 rfl aU),aV,(aP _)⟩ (fun a0=>?_);refine aC 0 rfl a0 yP ?_;refine aC 1 rfl a0 yP ?_;refine aC 2 rfl a0 (zZ CP) ?_;refine aC 3 rfl a0 AV ?_;refine aC 4 rfl a0 yP ?_;refine bT 5 4 37 true _ rfl a0 rfl rfl (.inl (zD aB (by first|rfl|decide))) ?_;refine bT 6 4 37 true _ rfl a0 rfl rfl (.inl (zD aB (by first|rfl|decide))) ?_;refine bT 7 4 37 true _ rfl a0 rfl rfl (.inl (zD aB (by first|rfl|decide))) ?_;refine bT 8 4 37 true _ rfl a0 rfl rfl (.inl (zD aB (by first|rfl|decide))) ?_;refine bT 9 4 37 true _ rfl a0 rfl rfl (.inl (zD aB (by first|rfl|decide))) ?_;refine bT 10 4 37 true _ rfl a0 rfl rfl (.inl (zD aB (by first|rfl|decide))) ?_;refine bT 11 4 37 true _ rfl a0 rfl rfl (.inl (zD aB (by first|rfl|decide))) ?_;refine bT 12 4 37 true _ rfl a0 rfl rfl (.inl (zD aB (by first|rfl|decide))) ?_;refine aC 13 rfl a0 (ET rfl rfl (by first|rfl|decide) rfl) ?_;refine AA ?_;refine aG (aZ rfl (fun b7=>aF (aX (bI rfl) b7)) (fun b7=>?_));refine dS (bZ (bZ (dB (aG (aK (aK (bM [0] [] 14 kR ?_)))))));refine bY ⟨(aQ 0 rfl aU),aV,(aP _)⟩ (fun a1=>?_);refine aC 0 rfl a1 yP ?_;refine aC 1 rfl a1 yP ?_;refine aC 2 rfl a1 (zZ CP) ?_;refine aC 3 rfl a1 AV ?_;refine aC 4 rfl a1 yP ?_;refine bT 5 4 53 true _ rfl a1 rfl rfl (.inl (zD aB (by first|rfl|decide))) ?_;refine bT 6 4 53 true _ rfl a1 rfl rfl (.inl (zD aB (by first|rfl|decide))) ?_;refine bT 7 4 53 true _ rfl a1 rfl rfl (.inl (zD aB (by first|rfl|decide))) ?_;refine bT 8 4 53 true _ rfl a1 rfl rfl (.inl (zD aB (by first|rfl|decide))) ?_;refine bT 9 4 53 true _ rfl a1 rfl rfl (.inl (zD aB (by first|rfl|decide))) ?_;refine bT 10 4 53 true _ rfl a1 rfl rfl (.inl (zD aB (by first|rfl|decide))) ?_;refine bT 11 4 53 true _ rfl a1 rfl rfl (.inl (zD aB (by first|rfl|decide))) ?_;refine bT 12 4 53 true _ rfl a1 rfl rfl (.inl (zD aB (by first|rfl|decide))) ?_;refine aC 13 rfl a1 (ET rfl rfl (by first|rfl|decide) rfl) ?_;refine AA ?_;refine aG (aZ rfl (fun am=>aF (aX (bI rfl) am)) (fun am=>?_));refine Cj.skip (aG (aK ?_));have O:zN AX _ ([]:List aI) (.slice none 0 0):=iC (I:=J2);refine aY (aA yQ ?_);refine J.yX (aA yP ?_);refine aA yP ?_;refine aA yP ?_;refine aA (JI (k:=0) rfl rfl rfl CP CQ rfl oM) ?_;refine bF rfl (BI (by':=23) (n:=0) (g:=none) (xs:=[]) [_] rfl rfl rfl rfl rfl CP (.inr ⟨_,CP⟩) kR CQ GL rfl rT rfl (fA (l:=([]:List aI)) BL iC (fun x _=>VR x)) oM ?_);intro _ bu;refine aA yQ ?_;refine J.yX (aA yP ?_);refine aA (zW NS CQ (yR.at 0 rfl)) ?_;refine bF rfl (BQ CP CQ GL (iD rfl dU) ?_);intro _ _;refine bF rfl (BI (by':=23) [_,_] rfl rfl rfl rfl rfl CP (.inr ⟨_,CP⟩) kR CQ GL rfl bu rfl (gJ (yR.at 0 rfl) rfl rfl rfl) oM ?_);intro _ bc;refine aA yQ ?_;refine J.GI (aA yP ?_);refine aA yP ?_;refine aA yP ?_;refine aA (PD (j:=0) rfl rfl rfl CP CQ rfl oM oM) ?_;refine bF rfl (BI (by':=23) [_,_] rfl rfl rfl rfl rfl CP (.inr ⟨_,CP⟩) kR CQ GL rfl bc rfl (fA (l:=([]:List aI)) BL iC (fun x _=>VR x)) oM ?_);intro bv bd;refine aA yQ ?_;refine eH (bU (aG (aY (aA yP ?_))));refine aA (yY rfl rfl rfl (zV oM)) ?_;refine aA yQ ?_;refine eH ?_;have ag:dM [] x=(([]:List aI).take 0++[x]++([]:List aI).drop 0):=a2Q (fun z hz=>by cases hz) (dH _) (fun y hy=>by cases hy);have a6:=a6i (([]:List aI).take 0) (([]:List aI).drop 0) x;refine gB (dZ (dZ fK)) ?_;refine dD ⟨i,j+1,_,(([]:List aI).take 0++[x]++([]:List aI).drop 0),bv⟩ ⟨dO,hL,hr,a2,by dsimp only;rw[FD id ac,←dG,eF,←hm];exact ag.symm,by dsimp only;rw[←a6];exact a7E (BM.base0 bd) (by simp only[aO,bD,bC,aT];omega)⟩ dO ⟨rfl,rfl,zD (fun n=>some (gV n _)) (by simp only[aO,bD,bC,aT];omega),rfl,rfl,trivial⟩ rfl (by dsimp only;rw[←a6];rfl)
   obtain⟨-,_,aq⟩:=id hg;have b8:ls.length≤gc:=by rw[BP BL]at aq;omega
   refine aA yQ ?_;refine J.nss (bG (eY (ι:=Nat) (fun k=>k≤ls.length∧∀z∈ls.take k,z.1<x.1) (fun k=>ls.length-k) (fun k=>[(0,.slice (some ⟨fb,fo,none⟩) L.length cL),(1,i64 a3),(5,.slice (some ⟨gb,0,none⟩) ls.length gc),(6,i64 (i:Int)),(7,i64 (j:Int)),(8,ptr b3 0),(9,i64 (k:Int))]) (fun k=>_) (fun k=>[(b3,yZ 41 (AX x)),(gb,yZ 41 (ls.flatMap AX++b6))]) 0 ⟨dH _,fun z hz=>by simp at hz⟩ rT rfl rfl ?_));rintro k ⟨hk,ad⟩;refine aK (aK (bM [0,1] [] 14 kR ?_));refine bY ⟨(aQ 0 rfl (aQ 1 rfl aU)),aV,(aP _)⟩ (fun h=>?_);refine aC 0 rfl h yP ?_;refine aC 1 rfl h yP ?_;refine aC 2 rfl h (zZ CP) ?_;refine aC 3 rfl h AV ?_;refine aC 4 rfl h yP ?_;refine fC 37 rfl (fun A=>?_) (fun A=>?_)
   rotate_left
   ·have az:=BJ A;refine AY 5 4 37 true h (.inl (zD aB A)) ?_;refine AY 6 4 37 true h (.inl (zD aB A)) ?_;refine AY 7 4 37 true h (.inl (zD aB A)) ?_;refine AY 8 4 37 true h (.inl (zD aB A)) ?_;refine AY 9 4 37 true h (.inl (zD aB A)) ?_;refine AY 10 4 37 true h (.inl (zD aB A)) ?_;refine AY 11 4 37 true h (.inl (zD aB A)) ?_;refine AY 12 4 37 true h (.inl (zD aB A)) ?_;refine aC 13 rfl h (ED A) ?_;refine AA ?_;refine aG (aZ rfl (fun ar=>aF (aX (bI rfl) ar)) (fun ar=>?_));refine dS (bZ (dI (dB (aG (aK (aK (bM [0,1] [] 14 kR ?_)))))));refine bY ⟨(aQ 0 rfl (aQ 1 rfl aU)),aV,(aP _)⟩ (fun G=>?_);refine aC 0 rfl G yP ?_;refine aC 1 rfl G yP ?_;refine aC 2 rfl G (zZ CP) ?_;refine aC 3 rfl G AV ?_;refine aC 4 rfl G yP ?_;refine fC 53 rfl (fun Q=>?_) (fun Q=>?_)
    ·have b0:=BH Q;have ai:k<ls.length:=oM;obtain⟨y,a7⟩:∃y,ls[k]?=some y:=⟨_,DC ai⟩;omega
    have b0:=BJ Q;refine AY 5 4 53 true G (.inl (zD aB Q)) ?_;refine AY 6 4 53 true G (.inl (zD aB Q)) ?_;refine AY 7 4 53 true G (.inl (zD aB Q)) ?_;refine AY 8 4 53 true G (.inl (zD aB Q)) ?_;refine AY 9 4 53 true G (.inl (zD aB Q)) ?_;refine AY 10 4 53 true G (.inl (zD aB Q)) ?_;refine AY 11 4 53 true G (.inl (zD aB Q)) ?_;refine AY 12 4 53 true G (.inl (zD aB Q)) ?_;refine aC 13 rfl G (ED Q) ?_;refine AA ?_;refine aG (aZ rfl (fun au=>aF (aX (bI rfl) au)) (fun au=>?_));refine Cj.skip (aG (aK (iE rfl (fun aa=>?_))));have av:=aa _ (.tail _ (.head _));refine Cj.pull (Pull.s Pull.z) ?_;refine Cj.persist av (fun _ a8 aj=>?_);have hL:=hL.mono a8;have hr:=hr.mono a8;have a2:=a8 _ _ a2;have af:=a8 _ _ af;have O:=zN.of (f:=AX) b8 aj;have bw:(ls.take k).length=k:=by rw[bC];omega
    have bx:(ls.drop k).length=ls.length-k:=aT;refine aY (aA yQ ?_);refine J.yX (aA yP ?_);refine aA yP ?_;refine aA yP ?_;refine aA (JI (k:=k) rfl rfl rfl CP CQ rfl oM) ?_;refine bF rfl (BI (by':=23) (n:=0) (g:=none) (xs:=[]) [_] rfl rfl rfl rfl rfl CP (.inr ⟨_,CP⟩) kR CQ GL rfl rT rfl (fA BL (gK O hk) (fun x _=>VR x)) oM ?_);intro _ be;refine aA yQ ?_;refine J.yX (aA yP ?_);refine aA (zW NS CQ (yR.at 0 rfl)) ?_;refine bF rfl (BQ CP CQ GL (iD rfl dU) ?_);intro _ _;refine bF rfl (BI (by':=23) [_,_] rfl rfl rfl rfl rfl CP (.inr ⟨_,CP⟩) kR CQ GL rfl be rfl (gJ (yR.at 0 rfl) rfl rfl rfl) oM ?_);intro _ bf;refine aA yQ ?_;refine J.GI (aA yP ?_);refine aA yP ?_;refine aA yP ?_;refine aA (PD (j:=k) rfl rfl rfl CP CQ rfl oM oM) ?_;refine bF rfl (BI (by':=23) [_,_] rfl rfl rfl rfl rfl CP (.inr ⟨_,CP⟩) kR CQ GL rfl bf rfl (fA BL (zN.from BL O (j:=k) hk) (fun x _=>VR x)) oM ?_);intro bz bg;refine aA yQ ?_;refine eH (bU (aG (aY (aA yP ?_))));refine aA (yY rfl rfl rfl (zV oM)) ?_;refine aA yQ ?_;refine eH ?_;have ag:dM ls x=((ls:List aI).take k++[x]++(ls:List aI).drop k):=a2Q ad hk (fun y hy=>absurd (aS.1 hy).1 oM);have a6:=a6i ((ls:List aI).take k) ((ls:List aI).drop k) x;refine gB (dZ (dZ fK)) ?_;refine dD ⟨i,j+1,_,((ls:List aI).take k++[x]++(ls:List aI).drop k),bz⟩ ⟨dO,hL,hr,a2,by dsimp only;rw[FD id ac,←dG,eF,←hm];exact ag.symm,by dsimp only;rw[←a6];exact a7E (BM.base0 bg) (by simp only[aO,bD,bC,aT];omega)⟩ dO ⟨rfl,rfl,zD (fun n=>some (gV n _)) (by simp only[aO,bD,bC,aT];omega),rfl,rfl,trivial⟩ rfl (by dsimp only;rw[←a6];rfl)
   have az:=BH A;have ai:k<ls.length:=oM;obtain⟨y,a7⟩:∃y,ls[k]?=some y:=⟨_,DC ai⟩;refine aW 5 4 37 true _ rfl h rfl rfl A yP ?_;refine aW 6 4 37 true _ rfl h rfl rfl A yP ?_;refine aW 7 4 37 true _ rfl h rfl rfl A (AU (off':=k*2) CP CQ) ?_;refine aW 8 4 37 true _ rfl h rfl rfl A (qq2 LY zS) ?_;refine aW 9 4 37 true _ rfl h rfl rfl A (II rfl rfl BR (dF 1 rfl) ((RV BL a7 0 dE).trans rfl)) ?_;refine aW 10 4 37 true _ rfl h rfl rfl A (qq2 (off':=0) LY zS) ?_;refine aW 11 4 37 true _ rfl h rfl rfl A (yV BR (dF 0 rfl)) ?_;refine aW 12 4 37 true _ rfl h rfl rfl A (a3r rfl rfl rfl) ?_;refine aC 13 rfl h (EO A) ?_;refine AA ?_;refine aG (aZ rfl (fun ak=>?_) (fun ak=>?_))
   ·have aw:y.1<x.1:=BH ak;refine Cj.skip (aG (bG (aY (aA yP ?_))));refine aA (yY rfl rfl rfl (zV oM)) ?_;refine aA yQ ?_;refine eH (bU (dD (k+1) ⟨oM,c3y ad a7 aw⟩ oM rT rfl rfl))
   have aw:¬y.1<x.1:=BJ ak;refine dS (bZ (dI (dB (aG (aK (aK (bM [0,1] [] 14 kR ?_)))))));refine bY ⟨(aQ 0 rfl (aQ 1 rfl aU)),aV,(aP _)⟩ (fun N=>?_);refine aC 0 rfl N yP ?_;refine aC 1 rfl N yP ?_;refine aC 2 rfl N (zZ CP) ?_;refine aC 3 rfl N AV ?_;refine aC 4 rfl N yP ?_;refine fC 53 rfl (fun Z=>?_) (fun Z=>?_)
   rotate_left
   ·have b1:=BJ Z;omega
   have b1:=BH Z;refine aW 5 4 53 true _ rfl N rfl rfl Z yP ?_;refine aW 6 4 53 true _ rfl N rfl rfl Z yP ?_;refine aW 7 4 53 true _ rfl N rfl rfl Z (AU (off':=k*2) CP CQ) ?_;refine aW 8 4 53 true _ rfl N rfl rfl Z (qq2 LY zS) ?_;refine aW 9 4 53 true _ rfl N rfl rfl Z (II rfl rfl BR (dF 1 rfl) ((RV BL a7 0 dE).trans rfl)) ?_;refine aW 10 4 53 true _ rfl N rfl rfl Z (qq2 (off':=0) LY zS) ?_;refine aW 11 4 53 true _ rfl N rfl rfl Z (yV BR (dF 0 rfl)) ?_;refine aW 12 4 53 true _ rfl N rfl rfl Z IW ?_;refine aC 13 rfl N (EO Z) ?_;refine AA ?_;refine aG (aZ rfl (fun ab=>?_) (fun ab=>?_))
   ·have b2:=DF ab;have ax:y.1=x.1:=DF ab;refine aK (bM [0] [] 13 kR ?_);refine bY ⟨(aQ 0 rfl aU),aV,(aP _)⟩ (fun a4=>?_);refine aC 0 rfl a4 yP ?_;refine aC 1 rfl a4 yP ?_;refine aC 2 rfl a4 yP ?_;refine aC 3 rfl a4 yP ?_;refine aC 4 rfl a4 (AU (off':=k*2) CP CQ) ?_;refine aC 5 rfl a4 (qq2 (off':=k*2+1) LY BO) ?_;refine aC 7 rfl a4 (qq2 (off':=1) LY BO) ?_;refine aC 8 rfl a4 (yV FY (dF 0 rfl)) ?_;refine zO 6 rfl (JR (II rfl rfl FY (yR.at 1 rfl) ((RV BL a7 1 dE).trans rfl)) rfl rfl ?_);refine⟨⟨(aP _),(aQ 0 rfl aU),aV⟩,?_⟩;refine bY ⟨(aQ 0 rfl aU),aV,(aP _)⟩ (fun al=>?_);refine aC 9 rfl al (a0n rfl rfl rfl) ?_;refine fG 72 rfl (show _=i64 (Bk.W (y.2+x.2)) from(zD (Value.int .i64) (a4M _))) ?_;refine aC 10 rfl al (AU (off':=k*2) CP CQ) ?_;refine aC 11 rfl al (qq2 (off':=k*2+1) LY BO) ?_;refine zO 12 rfl (AB 1 BO (a2k BL (x:=y) (z:=(y.1,Bk.W (y.2+x.2))) (j:=1) (vs:=[i64 (Bk.W (y.2+x.2))]) rfl (Nat.le_of_ble_eq_true rfl) a7) (DZ.s fO) ?_);refine⟨⟨(aP _),(aQ 0 rfl aU),aV⟩,?_⟩;refine AA ?_;refine aG (dS (bZ (dB (aG (aY (aA yP ?_))))));refine aA (yY rfl rfl rfl (zV oM)) ?_;refine aA yQ ?_;refine eH (gB (dZ fK) ?_);refine dD ⟨i,j+1,_,ls.set k (y.1,Bk.W (y.2+x.2)),some (gb,gc,b6)⟩ ⟨dO,hL,hr,a2,by dsimp only;rw[FD id ac,←dG,eF,←hm];exact(b4r ad a7 ax).symm,⟨dH _,by rw[BP BL],by rw[BP BL,fP];rw[BP BL]at aq;exact aq⟩⟩ dO ⟨rfl,rfl,by rw[fP];rfl,rfl,rfl,trivial⟩ rfl rfl
   ·have b2:=DU ab;have ax:y.1≠x.1:=DU ab;refine Cj.skip (aG (aK (iE rfl (fun aa=>?_))));have av:=aa _ (.tail _ (.head _));refine Cj.pull (Pull.s Pull.z) ?_;refine Cj.persist av (fun _ a9 aj=>?_);have hL:=hL.mono a9;have hr:=hr.mono a9;have a2:=a9 _ _ a2;have af:=a9 _ _ af;have O:=zN.of (f:=AX) b8 aj;have bw:(ls.take k).length=k:=by rw[bC];omega
    have bx:(ls.drop k).length=ls.length-k:=aT;refine aY (aA yQ ?_);refine J.yX (aA yP ?_);refine aA yP ?_;refine aA yP ?_;refine aA (JI (k:=k) rfl rfl rfl CP CQ rfl oM) ?_;refine bF rfl (BI (by':=23) (n:=0) (g:=none) (xs:=[]) [_] rfl rfl rfl rfl rfl CP (.inr ⟨_,CP⟩) kR CQ GL rfl rT rfl (fA BL (gK O hk) (fun x _=>VR x)) oM ?_);intro _ bh;refine aA yQ ?_;refine J.yX (aA yP ?_);refine aA (zW NS CQ (yR.at 0 rfl)) ?_;refine bF rfl (BQ CP CQ GL (iD rfl dU) ?_);intro _ _;refine bF rfl (BI (by':=23) [_,_] rfl rfl rfl rfl rfl CP (.inr ⟨_,CP⟩) kR CQ GL rfl bh rfl (gJ (yR.at 0 rfl) rfl rfl rfl) oM ?_);intro _ bi;refine aA yQ ?_;refine J.GI (aA yP ?_);refine aA yP ?_;refine aA yP ?_;refine aA (PD (j:=k) rfl rfl rfl CP CQ rfl oM oM) ?_;refine bF rfl (BI (by':=23) [_,_] rfl rfl rfl rfl rfl CP (.inr ⟨_,CP⟩) kR CQ GL rfl bi rfl (fA BL (zN.from BL O (j:=k) hk) (fun x _=>VR x)) oM ?_);intro c2 bj;refine aA yQ ?_;refine eH (bU (aG (aY (aA yP ?_))));refine aA (yY rfl rfl rfl (zV oM)) ?_;refine aA yQ ?_;refine eH ?_;have ag:dM ls x=((ls:List aI).take k++[x]++(ls:List aI).drop k):=a2Q ad hk (fun y hy=>by rw[a7]at hy;cases hy;exact⟨aw,ax⟩);have a6:=a6i ((ls:List aI).take k) ((ls:List aI).drop k) x;refine gB (dZ (dZ fK)) ?_;refine dD ⟨i,j+1,_,((ls:List aI).take k++[x]++(ls:List aI).drop k),c2⟩ ⟨dO,hL,hr,a2,by dsimp only;rw[FD id ac,←dG,eF,←hm];exact ag.symm,by dsimp only;rw[←a6];exact a7E (BM.base0 bj) (by simp only[aO,bD,bC,aT];omega)⟩ dO ⟨rfl,rfl,zD (fun n=>some (gV n _)) (by simp only[aO,bD,bC,aT];omega),rfl,rfl,trivial⟩ rfl (by dsimp only;rw[←a6];rfl)
  have bb:=BJ ao;refine dS (bZ (dI (dB (bU (aG (aY (aA yP ?_)))))));refine aA (yY rfl rfl rfl (zV oM)) ?_;refine aA yQ ?_;refine eH (dD ⟨i+1,0,_,ls,g⟩ ⟨dO,hL,by dsimp only;rw[OE id a5,hm,cZ (oM:rl.length≤j)],hg⟩ dO rT rfl rfl)
 have ba:=BJ an;refine dS (bZ (dI (dB (aG (aK (iE rfl (fun aa=>?_)))))));refine Cj.perm (H':=gH 41 (ls.flatMap AX) g++[]) (.of_eq (fM _)) ?_;refine Cj.keepR BL dE (hg.base aa) rfl (fun _ bl O=>?_);have hL:=hL.mono bl;obtain⟨pa,ca,ae⟩:=rowLen O;have c3:ls.length≤ca:=by obtain⟨_,_,b9,b4,_⟩:=id O;rw[ae]at b9;cases b9;exact b4
 refine Cj.eqv 5 rfl (show _= .slice pa ls.length ca from ae) ?_;rw[ae]at O;refine aY (aA yP ?_);refine aA yP ?_;refine aA (zZ CP) ?_;refine aA yP ?_;refine aA (OZ rfl rfl rfl) ?_;refine aA (KE rfl rfl rfl) ?_;refine J.eqv 94 rfl (show _=i64 ((min ls.length a3.toNat:Nat):Int) from(zD i64 (c2o _ _))) ?_;refine aA (JI (k:=(min ls.length a3.toNat)) rfl rfl rfl CP CQ rfl (KT (fQ _ _) c3)) ?_;refine aA yQ ?_;refine J.ns (bJ (zM ?_));rw[hm]at O ⊢;rw[cZ (oM:L.length≤i)]at O ⊢;have h9:=gK O (fQ _ a3.toNat);rw[a0C]at h9;exact⟨_,rfl,h9,rfl⟩
end Go.Proofs.YtdjkhllhakhjbaaGreatDoor
namespace Cq
def blank (c:UInt8):Bool:=(c.toNat:Int) == 32 || (c.toNat:Int) == 9 || (c.toNat:Int) == 10 || (c.toNat:Int) == 13
def plain (c:UInt8):Bool:= !blank c && (c.toNat:Int) != 40 && (c.toNat:Int) != 41 && (c.toNat:Int) != 34 && (c.toNat:Int) != 61 && (c.toNat:Int) != 60 && (c.toNat:Int) != 62
def quoted:List UInt8→Option (List UInt8×Nat)
 |[]=>none
 |c::r=>
  if c=34 then some ([],1)
  else if c=92 then
   match r with
   |[]=>none
   |d::r'=>(quoted r').map fun p=>(d::p.1,p.2+2)
  else(quoted r).map fun p=>(c::p.1,p.2+1)
structure Tok where
  kind:Nat
  text:List UInt8
  pos:Nat
deriving DecidableEq
def head (rest:List UInt8) (j:Nat):Tok×Nat:=
 match rest with
 |[]=>(⟨0,[],j⟩,0)
 |c::r=>
  if c=34 then
   match quoted r with
   |some (t,n)=>(⟨2,t,j⟩,n+1)
   |none=>(⟨4,[],j⟩,r.length+1)
  else if c=61∧r.head?=some 61 then(⟨1,[61,61],j⟩,2)
  else if c=62∧r.head?=some 61 then(⟨1,[62,61],j⟩,2)
  else if c=62 then(⟨4,[],j⟩,0)
  else if plain c then(⟨3,(c::r).takeWhile plain,j⟩,((c::r).takeWhile plain).length)
  else(⟨1,[c],j⟩,1)
def skip (s:List UInt8) (i:Nat):Nat:=i+((s.drop i).takeWhile blank).length
def lex (s:List UInt8) (i:Nat):Tok×Nat:=let r:=head (s.drop (skip s i)) (skip s i);(r.1,skip s i+r.2)
def over (t:Tok):Bool:=t.kind == 0 || t.kind == 4
def toks (s:List UInt8):Nat→Nat→List Tok
 |0,_=>[]
 |f+1,i=>if over (lex s i).1 then[(lex s i).1]else(lex s i).1::toks s f (lex s i).2
def tokens (s:List UInt8):List Tok:=toks s (s.length+1) 0
def low (c:UInt8):UInt8:=if 65≤c.toNat∧c.toNat≤90 then c+32 else c
def small (s:List UInt8):List UInt8:=s.map low
def indexes:List (List UInt8):=[[116,105,116,108,101],[97,117,116,104,111,114],[115,117,98,106,101,99,116],[105,115,98,110],[97,110,121],[121,101,97,114]]
def relations:List (List UInt8):=[[61],[61,61],[60],[62,61],[97,110,121],[97,108,108]]
def operator (t:Tok):Nat:=
 if t.kind≠3 then 0
 else if small t.text=[97,110,100]then 2 else if small t.text=[111,114]then 3 else if small t.text=[110,111,116]then 4 else 0
def relation (t:Tok):Bool:=relations.contains (small t.text) && (t.kind == 3 || t.kind == 1)
inductive Qs where
  |nil
  |cons (k:Int) (i r t:List UInt8) (ps rest:Qs)
deriving DecidableEq
structure Qn where
  k:Int
  i:List UInt8
  r:List UInt8
  t:List UInt8
  ps:Qs
deriving DecidableEq
def Qs.len:Qs→Nat
 | .nil=>0
 | .cons _ _ _ _ _ rest=>rest.len+1
def Qn.push (q:Qn) (rest:Qs):Qs:= .cons q.k q.i q.r q.t q.ps rest
def two (op:Nat) (a b:Qn):Qn:=⟨op,[],[],[],a.push (b.push .nil)⟩
def zero:Qn:=⟨0,[],[],[],.nil⟩
inductive Res where
  |ok (q:Qn) (ts:List Tok)
  |err (pos e:Nat)
deriving DecidableEq
def lp:Tok→Bool:=fun t=>t.kind == 1 && t.text == [40]
def rp:Tok→Bool:=fun t=>t.kind == 1 && t.text == [41]
def isTerm (t:Tok):Bool:=(t.kind == 2 || t.kind == 3) && operator t == 0
mutual
def clause:Nat→Nat→List Tok→Res
 |0,_,_=> .err 0 0
 |_+1,_,[]=> .err 0 0
 |f+1,deep,t::r=>
  if lp t then
   if deep+1>50 then .err t.pos 41
   else match query f (deep+1) r with
    | .err p e=> .err p e
    | .ok _ []=> .err 0 0
    | .ok q (t2::r2)=>if rp t2 then .ok q r2 else .err t2.pos 40
  else if !isTerm t then .err t.pos 40
  else match t.kind == 3,r with
   |true,t2::r2=>
    if relation t2 then
     if !indexes.contains (small t.text)then .err t.pos 42
     else match r2 with
      |[]=> .err 0 0
      |t3::r3=>if isTerm t3 then .ok ⟨1,small t.text,small t2.text,t3.text,.nil⟩ r3 else .err t3.pos 40
    else .ok ⟨1,[97,110,121],[61],t.text,.nil⟩ r
   |_,_=> .ok ⟨1,[97,110,121],[61],t.text,.nil⟩ r
def query:Nat→Nat→List Tok→Res
 |0,_,_=> .err 0 0
 |f+1,deep,ts=>
  match clause f deep ts with
  | .err p e=> .err p e
  | .ok q ts2=>more f deep q ts2
def more:Nat→Nat→Qn→List Tok→Res
 |0,_,_,_=> .err 0 0
 |_+1,_,_,[]=> .err 0 0
 |f+1,deep,q,t::r=>
  if operator t=0 then .ok q (t::r)
  else match clause f deep r with
   | .err p e=> .err p e
   | .ok q2 ts2=>more f deep (two (operator t) q q2) ts2
end
def parse (s:List UInt8):Qn×Nat×Nat:=
 match query (4*s.length+9) 0 (tokens s)with
 | .ok q (t::_)=>if t.kind=0 then(q,0,0)else(zero,t.pos,40)
 | .ok _ []=>(zero,0,40)
 | .err p e=>(zero,p,e)
end Cq
namespace Cq
def Qs.kinds:Qs→List Int
 | .nil=>[]
 | .cons k _ _ _ _ rest=>k::rest.kinds
def a4F (k:Int) (i r t:List UInt8) (n:Nat) (ps:Bool):Bool:=
 if k=1 then indexes.contains i && relations.contains r && n == 0
 else if k<2∨k>4∨i≠[]∨r≠[]∨t≠[]∨n≠2 then false else ps
def Qs.forms:Qs→Bool
 | .nil=>true
 | .cons k i r t ps rest=>a4F k i r t ps.len ps.forms && rest.forms
def form (q:Qn):Bool:=a4F q.k q.i q.r q.t q.ps.len q.ps.forms
def up (k:Int):Nat:=if k=1 then 0 else 1
def a7i (k:Int) (ks:List Int) (ds:List Nat):Nat:=
 if k=1 then 0 else match ks,ds with
  |[_,k1],[a,b]=>max (b+up k1) a
  |_,_=>0
def Qs.depths:Qs→List Nat
 | .nil=>[]
 | .cons k _ _ _ ps rest=>a7i k ps.kinds ps.depths::rest.depths
def depth (q:Qn):Nat:=a7i q.k q.ps.kinds q.ps.depths
def right (q:Qn):Bool:=form q && decide (depth q≤50)
def Qs.size:Qs→Nat
 | .nil=>0
 | .cons _ _ _ _ ps rest=>ps.size+rest.size+1
def Qn.size (q:Qn):Nat:=q.ps.size
def Qn.Two (q a b:Qn):Prop:=q.ps=a.push (b.push .nil)
theorem Qs.b7Z:∀{ps:Qs},ps.len=2→∃a b:Qn,ps=a.push (b.push .nil)
 | .nil,h=>by simp[Qs.len]at h
 | .cons _ _ _ _ _ .nil,h=>by simp[Qs.len]at h
 | .cons k i r t ps (.cons k' i' r' t' ps' .nil),_=>⟨⟨k,i,r,t,ps⟩,⟨k',i',r',t',ps'⟩,rfl⟩
 | .cons _ _ _ _ _ (.cons _ _ _ _ _ (.cons _ _ _ _ _ _)),h=>by simp[Qs.len]at h
theorem Qn.Two.size{q a b:Qn}(h:q.Two a b):a.size<q.size∧b.size<q.size:=by
 simp only[Qn.size,show q.ps=_ from h,Qn.push,Qs.size];omega
theorem Qn.Two.len{q a b:Qn}(h:q.Two a b):q.ps.len=2:=by rw[show q.ps=_ from h];rfl
theorem a4c{q:Qn}(h:q.k=1):form q=(indexes.contains q.i && relations.contains q.r && q.ps.len == 0):=by simp[form,a4F,h]
theorem a5W{q:Qn}(h:q.k≠1)(A:q.k<2∨q.k>4∨q.i≠[]∨q.r≠[]∨q.t≠[]∨q.ps.len≠2):form q=false:=by unfold form a4F;rw[zF h,zG A]
theorem a5I{q a b:Qn}(h:q.k≠1)(A:¬(q.k<2∨q.k>4∨q.i≠[]∨q.r≠[]∨q.t≠[]∨q.ps.len≠2))(G:q.Two a b):form q=(form a && form b):=by
 unfold form a4F;rw[zF h,zF A,show q.ps=_ from G];simp[Qn.push,Qs.forms,a4F]
theorem a1p{q:Qn}(h:form q=true):q.k=1∨(q.k≠1∧2≤q.k∧q.k≤4∧∃a b,q.Two a b∧form a=true∧form b=true):=by
 by_cases h1:q.k=1
 ·exact .inl h1
 by_cases h2:q.k<2∨q.k>4∨q.i≠[]∨q.r≠[]∨q.t≠[]∨q.ps.len≠2
 ·rw[a5W h1 h2]at h;cases h
 obtain⟨a,b,A⟩:=Qs.b7Z (ps:=q.ps) oM;rw[a5I h1 h2 A,bV]at h;exact .inr ⟨h1,oM,oM,a,b,A,h.1,h.2⟩
theorem a2V{q:Qn}(h:q.k=1):depth q=0:=by simp[depth,a7i,h]
theorem a3F{q a b:Qn}(h:q.k≠1)(A:q.Two a b):depth q=max (depth b+up b.k) (depth a):=by
 unfold depth;rw[show q.ps=_ from A];simp[Qn.push,Qs.depths,Qs.kinds,a7i,h]
def Qs.wide:Qs→Nat
 | .nil=>0
 | .cons _ i r t ps rest=>i.length+r.length+t.length+ps.wide+rest.wide
def Qn.wide (q:Qn):Nat:=q.i.length+q.r.length+q.t.length+q.ps.wide
theorem Qn.Two.wide{q a b:Qn}(h:q.Two a b):a.wide≤q.wide∧b.wide≤q.wide:=by
 unfold Qn.wide;rw[show q.ps=_ from h];simp only[Qn.push,Qs.wide];omega
def deep (q:Qn):Int:=if form q then(depth q:Int)else -1
theorem b8w{q:Qn}(h:q.k=1):deep q=if (indexes.contains q.i && relations.contains q.r && q.ps.len == 0)then 0 else -1:=by
 unfold deep;rw[a4c h,a2V h];rfl
theorem b9r{q:Qn}(h:q.k≠1)(A:q.k<2∨q.k>4∨q.i++q.r++q.t≠[]∨q.ps.len≠2):deep q= -1:=by
 unfold deep;rw[a5W h (by
  rcases A with A|A|A|A
  ·exact .inl A
  ·exact .inr (.inl A)
  ·by_cases hi:q.i=[]
   ·by_cases hr:q.r=[]
    ·exact .inr (.inr (.inr (.inr (.inl fun G=>A (by simp[hi,hr,G])))))
    exact .inr (.inr (.inr (.inl hr)))
   exact .inr (.inr (.inl hi))
  exact .inr (.inr (.inr (.inr (.inr A)))))]
 rfl
theorem b9H{q a b:Qn}(h:q.k≠1)(G:¬(q.k<2∨q.k>4∨q.i≠[]∨q.r≠[]∨q.t≠[]∨q.ps.len≠2))(A:q.Two a b):deep q=if min (deep a) (deep b)<0 then -1 else max (deep a) (deep b+up b.k):=by
 unfold deep;rw[a5I h G A,a3F h A];cases form a<;>cases form b<;>simp<;>omega
theorem b4f(q:Qn): -1≤deep q:=by unfold deep;split<;>omega
theorem a2W:∀(n:Nat) (q:Qn),q.size<n→form q=true→depth q≤q.size
 |0,q,h,_=>oM
 |n+1,q,h,hf=>by
  rcases a1p hf with G|⟨G,_,_,a,b,A,N,O⟩
  ·rw[a2V G];exact dH _
  have h1:=A.size;have Q:=a2W n a oM N;have Z:=a2W n b oM O;have hu:up b.k≤1:=by unfold up;split<;>omega
  rw[a3F G A];omega
theorem b3L(q:Qn):deep q≤q.size:=by
 unfold deep
 split
 ·rename_i h;have:=a2W _ q (Nat.lt_succ_self _) h;omega
 omega
theorem a6n(q:Qn):(decide (deep q≥0) && decide (deep q≤50))=right q:=by
 unfold deep right;cases form q<;>simp;omega
end Cq
namespace Go.Sx
open Cq
def QC (I:Heap):Qs→List Value→Prop
 | .nil,_=>True
 | .cons k i r t ps rest,cs=>∃p c tl,cs=i64 k::str i::str r::str t:: .slice p ps.len c::tl∧
  (ps= .nil∨∃(b off:Nat) (cs':List Value) (T:TypeId) (fr:Nat×Nat),p=some ⟨b,off,none⟩∧I b=some (.cells cs'.toArray T fr)∧QC I ps (cs'.drop off))∧QC I rest tl
theorem QC.mono{I A:Heap}(h:Le I A):∀{q:Qs} {cs:List Value},QC I q cs→QC A q cs
 | .nil,_,_=>trivial
 | .cons _ _ _ _ _ps _rest,_,⟨p,c,tl,h1,h2,h3⟩=>⟨p,c,tl,h1,h2.imp id fun⟨b,off,cs',T,fr,G,N,O⟩=>⟨b,off,cs',T,fr,G,h _ _ N,QC.mono h O⟩,QC.mono h h3⟩
def PS (I:Heap) (ps:Qs) (p:Option Addr):Prop:=ps= .nil∨∃(b off:Nat) (cs':List Value) (T:TypeId) (fr:Nat×Nat),p=some ⟨b,off,none⟩∧I b=some (.cells cs'.toArray T fr)∧QC I ps (cs'.drop off)
theorem PS.mono{I G:Heap}{ps:Qs}{p:Option Addr}(h:PS I ps p)(A:Le I G):PS G ps p:=
 h.imp id fun⟨b,off,cs',T,fr,N,O,Q⟩=>⟨b,off,cs',T,fr,N,A _ _ O,QC.mono A Q⟩
abbrev FX (q:Qn) (p:Option Addr) (c:Nat):List Value:=[i64 q.k,str q.i,str q.r,str q.t,.slice p q.ps.len c]
def QV (I:Heap) (q:Qn) (v:Value):Prop:=∃p c,v= .agg (FX q p c).toArray∧PS I q.ps p
theorem PS.two{I:Heap}{a b:Qn}{A G:Option Addr}{ca cb:Nat}{N T:Nat}(O:PS I a.ps A)(Q:PS I b.ps G)(h:I N=some (yZ T (FX a A ca++(FX b G cb++[])))):PS I (a.push (b.push .nil)) (some ⟨N,0,none⟩):=
 .inr ⟨N,0,_,T,(0,0),rfl,h,A,ca,_,rfl,O,G,cb,_,rfl,Q,trivial⟩
theorem PS.b7O{I:Heap}{q a b:Qn}{p:Option Addr}(h:PS I q.ps p)(ht:q.Two a b):
 ∃G off cs' T fr N ca O cb,p=some ⟨G,off,none⟩∧I G=some (.cells (List.toArray cs') T fr)∧(cs'.drop off).take 5=FX a N ca∧(cs'.drop (off+5)).take 5=FX b O cb∧cs'[off+5]?=some (i64 b.k)∧PS I a.ps N∧PS I b.ps O:=by
 rw[show q.ps=_ from ht]at h;rcases h with h|⟨G,off,cs',T,fr,rfl,hI,N,ca,tl,A,Q,O,cb,a1,Z,a0,_⟩
 ·cases h
 subst Z;refine⟨G,off,cs',T,fr,N,ca,O,cb,rfl,hI,?_,?_,?_,Q,a0⟩
 ·rw[A];rfl
 ·rw[←List.drop_drop,A];rfl
 rw[←List.getElem?_drop,A];rfl
end Go.Sx
namespace Go.Sx
end Go.Sx
namespace Cq
theorem a6O(r:List UInt8):quoted (34::r)=some ([],1):=by rw[quoted.eq_def];simp
theorem a5p(c:UInt8)(r:List UInt8)(h:c≠34)(A:c≠92):quoted (c::r)=(quoted r).map fun p=>(c::p.1,p.2+1):=by
 rw[quoted.eq_def];simp[h,A]
theorem a6C(d:UInt8)(r:List UInt8):quoted (92::d::r)=(quoted r).map fun p=>(d::p.1,p.2+2):=by
 rw[quoted.eq_def];simp
theorem a5n:quoted [92]=none:=by rw[quoted.eq_def];simp
theorem a2o:quoted []=none:=by rw[quoted.eq_def]
def MC (s:List UInt8) (i:Nat):List UInt8×Nat:=
 match quoted (s.drop (i+1))with
 |some (t,n)=>(t,i+1+n)
 |none=>([],0)
structure SE (s:List UInt8) (i k:Nat) (out:List UInt8):Prop where
  le:k≤s.length+1
  lo:i+1≤k
  ol:out.length≤k
  eq:(quoted (s.drop k)).map (fun p=>(out++p.1,p.2+(k-(i+1))))=quoted (s.drop (i+1))
theorem SE.start(s:List UInt8)(i:Nat)(h:i<s.length):SE s i (i+1) []:=by
 refine⟨oM,oM,sI,?_⟩;cases quoted (s.drop (i+1))<;>simp
theorem a0B{s:List UInt8}{k:Nat}{c:UInt8}(h:s[k]?=some c):s.drop k=c::s.drop (k+1):=by
 obtain⟨A,hg⟩:=aS.1 h;rw[List.drop_eq_getElem_cons A,hg]
theorem SE.byte{s:List UInt8}{i k:Nat}{out:List UInt8}(h:SE s i k out)(O:k<s.length)(c:UInt8)(N:s[k]?=some c)(A:c≠34)(G:c≠92):SE s i (k+1) (out++[c]):=by
 have Q:=h.lo;refine⟨oM,oM,by have:=h.ol;simp;omega,?_⟩;rw[←h.eq,a0B N,a5p c _ A G];cases quoted (s.drop (k+1))with
 |none=>rfl
 |some p=>simp;omega
theorem SE.esc{s:List UInt8}{i k:Nat}{out:List UInt8}(h:SE s i k out)(G:k<s.length)(c:UInt8)(N:s[k]?=some c)(A:c=92)(d:UInt8)(hd:s[k+1]?=some d):SE s i (k+2) (out++[d]):=by
 have O:=h.lo;obtain⟨_,_⟩:=aS.1 hd;refine⟨oM,oM,by have:=h.ol;simp;omega,?_⟩;rw[←h.eq,a0B N,a0B hd,A,a6C];cases quoted (s.drop (k+1+1))with
 |none=>rfl
 |some p=>simp;omega
theorem SE.fin{s:List UInt8}{i k:Nat}{out:List UInt8}(h:SE s i k out)(O:k<s.length)(c:UInt8)(G:s[k]?=some c)(A:c=92)(N:s.length≤k+1):SE s i (k+2) out:=by
 have Q:=h.lo;refine⟨oM,oM,by have:=h.ol;omega,?_⟩;rw[←h.eq,a0B G,A,dJ N,dJ oM,a5n,a2o];rfl
theorem SE.quote{s:List UInt8}{i k:Nat}{out:List UInt8}(h:SE s i k out)(c:UInt8)(G:s[k]?=some c)(A:c=34):MC s i=(out,k+1):=by
 have N:=h.lo;unfold MC;rw[←h.eq,a0B G,A,a6O];simp;omega
theorem SE.past{s:List UInt8}{i k:Nat}{out:List UInt8}(h:SE s i k out)(A:s.length≤k):MC s i=([],0):=by
 unfold MC;rw[←h.eq,dJ A,a2o];rfl
end Cq
namespace Go.Sx
abbrev b5o (t:Cq.Tok):Value:= .agg #[i64 t.kind,str t.text,i64 t.pos]
end Go.Sx
namespace Cq
end Cq
namespace Cq
theorem XG:∀(n:Nat) (r:List UInt8) (p:List UInt8×Nat),r.length≤n→quoted r=some p→1≤p.2∧p.2≤r.length∧p.1.length≤r.length
 |_,[],p,_,h=>by rw[a2o]at h;cases h
 |0,_::_,_,hn,_=>by simp at hn
 |n+1,c::r,p,hn,h=>by
  by_cases h34:c=34
  ·subst h34;rw[a6O]at h;cases h;simp
  by_cases h92:c=92
  ·subst h92;cases r with
   |nil=>rw[a5n]at h;cases h
   |cons d A=>
    rw[a6C]at h;cases hq:quoted A with
    |none=>rw[hq]at h;cases h
    |some q=>
     rw[hq]at h;cases h;have:=XG n A q (by simp at hn;omega) hq;simp;omega
  rw[a5p c r h34 h92]at h;cases hq:quoted r with
  |none=>rw[hq]at h;cases h
  |some q=>
   rw[hq]at h;cases h;have:=XG n r q (by simp at hn;omega) hq;simp;omega
theorem c0h(rest:List UInt8)(j:Nat)(h:over (head rest j).1=false):1≤(head rest j).2∧(head rest j).2≤rest.length:=by
 cases rest with
 |nil=>simp[head,over]at h
 |cons c r=>
  unfold head at*
  by_cases h34:c=34
  ·simp only[h34,if_true]at *;cases hq:quoted r with
   |none=>rw[hq]at h;simp[over]at h
   |some q=>
    have:=XG _ r q (eU _) hq;simp;omega
  simp only[h34,if_false]at*
  split
  ·rename_i A
   have:r≠[]:=fun G=>by simp[G]at A
   have:=fF.2 this;simp;omega
  split
  ·rename_i A
   have:r≠[]:=fun G=>by simp[G]at A
   have:=fF.2 this;simp;omega
  split
  ·rename_i A Q N
   simp[N,over]at h
   simp_all
  split
  ·rename_i O
   constructor
   ·simp[O]
   exact(eX _).length_le
  simp
theorem b4k(s:List UInt8)(i:Nat)(h:i≤s.length):i≤skip s i∧skip s i≤s.length:=by
 unfold skip;have:=(eX (p:=blank) (l:=s.drop i)).length_le;simp at this;omega
theorem a4L(s:List UInt8)(i:Nat)(A:i≤s.length)(h:over (lex s i).1=false):i<(lex s i).2∧(lex s i).2≤s.length:=by
 have N:=b4k s i A;have G:=c0h (s.drop (skip s i)) (skip s i) h;simp only[lex]at *;simp at G;omega
theorem a9o(s:List UInt8):∀(n f A i:Nat),i≤s.length→s.length-i≤n→s.length-i<f→s.length-i<A→toks s f i=toks s A i
 |n,0,_,i,_,_,h,_=>oM
 |n,_,0,i,_,_,_,h=>oM
 |n,f+1,A+1,i,hi,hn,h1,h2=>by
  simp only[toks];cases ho:over (lex s i).1 with
  |true=>rfl
  |false=>
   have G:=a4L s i hi ho;cases n with
   |zero=>omega
   |succ n=>
    simp only[fH,if_false];rw[a9o s n f A _ G.2 oM oM oM]
def a7b (s:List UInt8) (i:Nat):List Tok:=toks s (s.length+1-i) i
theorem a5J(s:List UInt8)(i:Nat)(h:i≤s.length):a7b s i=if over (lex s i).1 then[(lex s i).1]else(lex s i).1::a7b s (lex s i).2:=by
 unfold a7b;obtain⟨f,hf⟩:∃f,s.length+1-i=f+1:=⟨s.length-i,oM⟩;rw[hf,toks];cases ho:over (lex s i).1 with
 |true=>rfl
 |false=>
  have A:=a4L s i h ho;simp only[fH,if_false];rw[a9o s s.length f (s.length+1-(lex s i).2) _ A.2 oM oM oM]
end Cq
namespace Go.Sx
end Go.Sx
namespace Go.Sx
open Cq
end Go.Sx
namespace Cq
def ZV (ts:List Tok):Prop:=∃l t,ts=l++[t]∧over t=true
theorem ZV.cons{t:Tok}{r:List Tok}(h:ZV (t::r))(N:over t=false):ZV r:=by
 obtain⟨l,x,A,G⟩:=h;cases l with
 |nil=>simp at A;obtain⟨rfl,rfl⟩:=A;rw[N]at G;cases G
 |cons y l=>simp at A;exact⟨l,x,A.2,G⟩
theorem ZV.ne{ts:List Tok}(h:ZV ts):∃t r,ts=t::r:=by
 obtain⟨l,x,A,_⟩:=h;cases l with
 |nil=>exact⟨x,[],A⟩
 |cons y l=>exact⟨y,l++[x],A⟩
theorem a8j{t:Tok}(h:lp t=true):over t=false:=by
 simp only[lp,bV,beq_iff_eq]at h;simp[over,h.1]
theorem b3K{t:Tok}(h:rp t=true):over t=false:=by
 simp only[rp,bV,beq_iff_eq]at h;simp[over,h.1]
theorem a1f{t:Tok}(h:isTerm t=true):over t=false:=by
 simp only[isTerm,bV,fU,beq_iff_eq]at h;rcases h.1 with h|h<;>simp[over,h]
theorem a8c{t:Tok}(h:operator t≠0):over t=false:=by
 unfold operator at h
 split at h
 ·exact absurd rfl h
 rename_i A
 have G:t.kind=3:=by simpa using A
 simp[over,G]
theorem a2w{t:Tok}(h:relation t=true):over t=false:=by
 simp only[relation,bV,fU,beq_iff_eq]at h;rcases h.2 with h|h<;>simp[over,h]
def Less (ts:List Tok):Res→Prop
 | .ok _ ts2=>ZV ts2∧ts2.length<ts.length
 | .err _ _=>True
theorem less:∀f,(∀deep ts,ZV ts→Less ts (clause f deep ts))∧(∀deep ts,ZV ts→Less ts (query f deep ts))∧∀deep q ts,ZV ts→∀q2 A,more f deep q ts= .ok q2 A→ZV A∧A.length≤ts.length
 |0=>⟨fun _ _ _=>by simp[clause,Less],fun _ _ _=>by simp[query,Less],fun _ _ _ _ _ _ h=>by simp[more]at h⟩
 |f+1=>by
  obtain⟨hc,hq,hm⟩:=less f;refine⟨fun deep ts hg=>?_,fun deep ts hg=>?_,fun deep q ts hg q2 A h=>?_⟩
  ·obtain⟨t,r,rfl⟩:=hg.ne;unfold clause
   by_cases G:lp t=true
   ·have hr:=hg.cons (a8j G);rw[zG G]
    split
    ·trivial
    have:=hq (deep+1) r hr;cases hx:query f (deep+1) r with
    |err p e=>trivial
    |ok q A=>
     rw[hx]at this;obtain⟨Q,hl⟩:=this;obtain⟨t2,r2,rfl⟩:=Q.ne;simp only[]
     split
     ·rename_i N
      exact⟨Q.cons (b3K N),by simp at hl ⊢;omega⟩
     trivial
   rw[zF G]
   by_cases N:isTerm t=true
   ·have hr:=hg.cons (a1f N);rw[zF (by simp[N])];obtain⟨t2,r2,rfl⟩:=hr.ne;cases h3:t.kind == 3 with
    |false=>exact⟨hr,sI⟩
    |true=>
     simp only[]
     by_cases h4:relation t2=true
     ·rw[zG h4];have Z:=hr.cons (a2w h4)
      split
      ·trivial
      obtain⟨t3,_,rfl⟩:=Z.ne;simp only[]
      by_cases h5:isTerm t3=true
      ·rw[zG h5];exact⟨Z.cons (a1f h5),by simp;omega⟩
      rw[zF h5];trivial
     rw[zF h4];exact⟨hr,sI⟩
   rw[zG (by simpa using N)];trivial
  ·unfold query;have:=hc deep ts hg;cases hx:clause f deep ts with
   |err p e=>trivial
   |ok q A=>
    rw[hx]at this;simp only[];cases hy:more f deep q A with
    |err p e=>trivial
    |ok q3 O=>
     have:=hm deep q A this.1 q3 O hy;have G:=this
     rename_i h0
     exact⟨G.1,by have:=h0.2;omega⟩
  obtain⟨t,r,rfl⟩:=hg.ne;unfold more at h
  by_cases G:operator t=0
  ·rw[zG G]at h;cases h;exact⟨hg,eU _⟩
  rw[zF G]at h;have hr:=hg.cons (a8c G);have:=hc deep r hr;cases hx:clause f deep r with
  |err p e=>rw[hx]at h;cases h
  |ok q3 O=>
   rw[hx]at h this;have N:=hm deep _ O this.1 q2 A h;have h3:=this.2;exact⟨N.1,by simp;omega⟩
end Cq
namespace Go.Sx
open Cq
end Go.Sx
namespace Go.Proofs.YtdjkhllhakhjbaaGreatDoor
open _root_.Go.Proofs.Tryz
open Go Go.Sx
theorem IJ(l:List UInt8):(⟨l.toArray⟩:ByteArray).data.toList=l:=sI
theorem a9F(r:Int)(h:gU r=true):dY r=true:=by
 unfold gU at h;unfold dY;simp at h ⊢;omega
theorem a9E(r:Int)(I:Heap):∃b,Pure aJ 222 [.int .i32 r] I (.bool b)∧(b=true→dY r=true):=
 ⟨_,dA (bP func222 dE rfl) fun w _=>Tryz.utf8_ValidRune r w,a9F r⟩
theorem a9t(l:List UInt8)(c:UInt8)(I:Heap):Pure aJ 126 [str l,u8 c] I (i64 (dV l c)):=
 dA (bP func126 dE rfl) fun w _=>by
  have h:=Tryz.strings_IndexByte ⟨l.toArray⟩ c.toNat w;have e:((c.toNat:Int)).toNat.toUInt8=c:=sI;rw[IJ,e]at h;exact h
theorem a6q{l:List UInt8}{c:UInt8}(h:∀d∈l,d.toNat<128)(N:128≤c.toNat):dV l c= -1:=by
 induction l with
 |nil=>rfl
 |cons d l A=>
  have hd:=h d (.head _);have hn:(d == c)=false:=by rw[beq_eq_false_iff_ne];intro e;subst e;omega
  rw[dV,hn,A fun x G=>h x (.tail _ G)];rfl
theorem b6p{r:Int}(G:dY r=true)(A:128≤r):2≤(aH r).data.toList.length∧(aH r).data.toList.length≤4∧∃c,(aH r).data.toList[(aH r).data.toList.length-1]?=some c∧128≤c.toNat:=by
 obtain⟨N,O,Q⟩:=encode_facts r G A;have hs:(aH r).data.toList.length=(aH r).size:=rfl;rw[hs];have h:(aH r).size-1<(aH r).size:=oM;exact⟨N,O,_,Lib.data_getElem? (aH r) _ h,Q h⟩
theorem a2N{l:List UInt8}{i:Nat}{c:UInt8}(h:l[i]?=some c)(N:c.toNat<128):bQ ⟨l.toArray⟩ i=(c.toNat,1):=by
 obtain⟨A,hg⟩:=aS.1 h;have hs:i<(⟨l.toArray⟩:ByteArray).size:=by rw[size_mk];exact A
 have G:(⟨l.toArray⟩:ByteArray)[i]'hs=c:=by simp[dK,hg]
 rw[decode_ascii _ _ hs (by rw[G];exact N),G]
theorem a6u(h:List UInt8)(Q:∀c∈h,c.toNat<128)(h4:4≤h.length)(ah:h.length≤1000000)(r:Int)(ab:128≤r)(hr:r≤2147483647)(I:Heap):Pure aJ 167 [str h,.int .i32 r] I (i64 (-1)):=by
 refine fD ?_;obtain⟨_,a1⟩:=a9E r I;refine yS.ob func167 ?_;intro w0 _;refine Cj.sr (aA yQ ?_);refine J.ns (bG (Cj.sr (aA yP ?_)));refine aA (ZC rfl rfl rfl) ?_;refine aA yP ?_;refine J.KY 2 163 true _ rfl rfl rfl (zI oM) (zK yP ?_);refine J.KY 2 163 true _ rfl rfl rfl (zI oM) (zK AV ?_);refine aA (EH rfl rfl (zI oM) rfl) ?_;refine aA yQ ?_;refine J.ns (aZ rfl (fun a2=>aF (aX (bI (zJ oM)) a2)) (fun a2=>?_));refine Cj.sr (aA yP ?_);refine aA DW ?_;refine aA yQ ?_;refine J.cd (fun N=>?_) (fun N=>?_)
 ·have ac:=DF N;refine aK (Cj.sr (aA yP ?_));refine bF rfl (OH rfl rfl rfl rfl BU ?_);intro b3 _;refine J.ns (bG (eY (ι:=Nat) (fun i=>True) (fun i=>h.length-i) (fun i=>[(0,str h),(1,.int .i32 r),(174,str h),(175,ptr b3 0)]) (fun i=>I) (fun i=>[(b3,.stringIter ⟨h.toArray⟩ i)]) 0 trivial rT rfl rfl ?_));rintro i -;rcases dR i h.length with hp|hp
  ·obtain⟨c,O⟩:∃c,h[i]?=some c:=⟨_,DC hp⟩;have a3:=a2N O (Q c (FQ O));refine Cj.sr (bF rfl (XV 0 rfl rfl rfl rfl rfl (by rw[size_mk];omega) fO ?_));refine aA AZ ?_;refine J.nss (aZ rfl (fun a6=>?_) (fun a6=>aF (aX (bI rfl) a6)));refine Cj.skip (aG (bG (Cj.sr (aA AZ ?_))));refine aA AZ ?_;refine aA yQ ?_;refine aA yQ ?_;refine J.yX (aA yP ?_);refine aA DW ?_;refine J.ns (aZ rfl (fun a7=>aF (aX (bI (beq_eq_false_iff_ne.2 (by rw[a3];dsimp only;have:=Q c (FQ O);omega))) a7)) (fun a7=>?_));refine Cj.skip (bU (dD (i+(bQ ⟨h.toArray⟩ i).2) trivial (by rw[a3];dsimp only;omega) rT rfl rfl))

  refine Cj.sr (bF rfl (TL 0 rfl rfl rfl rfl rfl (by rw[size_mk];omega) ?_));refine aA AZ ?_;refine J.nss (aZ rfl (fun a8=>aF (aX (bI rfl) a8)) (fun a8=>?_));refine dS (bZ (dI (dB (aG (Cj.sr (aA yQ ?_))))));refine J.ns (bJ (dN (dP ?_)));refine zM ?_;exact rT
 have ac:=DU N;refine Cj.sr (aA yP ?_);refine bF rfl (yU rfl rfl rfl rfl rfl (a1.1) ?_);refine aA (ER rfl rfl) ?_;refine aA yQ ?_;refine J.cd (fun a9=>?_) (fun a9=>?_)
 ·refine Cj.sr (aA yQ ?_);refine J.ns (bJ (dN (zM ?_)));exact rT
 have af:dY r=true:=a1.2 (by simpa using a9);obtain⟨_,_,c2,Z,N⟩:=b6p af ab;obtain⟨c1,a0⟩:∃c,h[(aH r).data.toList.length-1]?=some c:=⟨_,DC oM⟩;have a2:=Q c1 (FQ a0);have ag:(c1.toNat:Int)≠c2.toNat:=oM;have ad:∀d∈(h.take h.length).drop ((aH r).data.toList.length-1+1),d.toNat<128:=fun d hd=>Q d (List.mem_of_mem_take (List.mem_of_mem_drop hd));refine Cj.scope ?_;refine Cj.sr (aA yP ?_);refine aA (LC rfl rfl ZN BU) ?_;refine aA yQ ?_;refine J.yX (aA yP ?_);refine aA (CG rfl rfl BU) ?_;refine aA (EP rfl rfl rfl (zV oM)) ?_;refine aA yQ ?_;refine J.yX (aA yP ?_);refine aA yQ ?_;refine J.yX (aA yQ ?_);refine J.nss (bG (eY (ι:=Unit) (fun i=>True) (fun i=>0) (fun i=>[(0,str h),(7,str (aH r).data.toList),(8,i64 ((aH r).data.toList.length-1:Int)),(9,i64 ((aH r).data.toList.length-1:Int))]) (fun i=>I) (fun i=>[]) () trivial rT rfl rfl ?_));rintro _ -;refine aK (Cj.sr (aA yP ?_));refine aA yP ?_;refine aA (CG rfl rfl BU) ?_;refine aA AV ?_;refine J.ns (aZ rfl (fun aa=>?_) (fun aa=>aF (aX (bI (zI oM)) aa)));refine Cj.skip (aG (bG (Cj.scope ?_)));refine aK (aK (bM [] [] 7 kR ?_));refine bY BX (fun G=>?_);refine aC 0 rfl G yP ?_;refine aC 1 rfl G yP ?_;refine aC 2 rfl G (GK rfl rfl rfl BU oM (by rw[show((((aH r).data.toList.length:Int)-1).toNat)=(aH r).data.toList.length-1 by omega];exact a0)) ?_;refine aC 3 rfl G yP ?_;refine aC 4 rfl G yP ?_;refine aC 5 rfl G (GK rfl rfl rfl BU oM (by rw[show((((aH r).data.toList.length:Int)-1).toNat)=(aH r).data.toList.length-1 by omega];exact Z)) ?_;refine aC 6 rfl G (GH rfl rfl rfl) ?_;refine AA ?_;refine aG (aZ rfl (fun a4=>?_) (fun a4=>aF (aX (bI (bne_iff_ne.2 ag)) a4)));refine aK (bM [] [] 9 kR ?_);refine bY BX (fun A=>?_);refine aC 0 rfl A yP ?_;refine aC 1 rfl A yP ?_;refine aC 2 rfl A (yY rfl rfl rfl (zV oM)) ?_;refine fG 36 rfl (show _=i64 ((aH r).data.toList.length-1+1:Nat) from(by congr 1;omega)) ?_;refine aC 3 rfl A (EC (p:=(aH r).data.toList.length-1+1) (q:=h.length) rfl rfl BU ⟨_,rfl⟩ rfl oM oM) ?_;refine aC 4 rfl A yP ?_;refine aC 5 rfl A yP ?_;refine aC 6 rfl A (GK rfl rfl rfl BU oM (by rw[show((((aH r).data.toList.length:Int)-1).toNat)=(aH r).data.toList.length-1 by omega];exact Z)) ?_;refine zO 7 rfl (yU rfl rfl rfl rfl rfl (a9t _ _ _) ?_);refine⟨EK,?_⟩;refine fG 41 rfl (show _=i64 (-1) from(by rw[a6q ad N])) ?_;refine bY BX (fun ae=>?_);refine aC 8 rfl ae yQ ?_;refine AA ?_;refine aG (aK (Cj.sr (aA yP ?_)));refine aA AV ?_;refine J.ns (aZ rfl (fun a5=>?_) (fun a5=>aF (aX (bI (zI oM)) a5)));refine Cj.sr (aA yQ ?_);refine J.ns (bJ (dQ (dQ (Ej.a9R ?_))));refine dN (Ej.NC (dN (dQ (Ej.a9R ?_))));refine dN (zM ?_);exact rT
theorem c5n{l:List UInt8}{j:Nat}{d:UInt8}(h:l[j]?=some d):((⟨l.toArray⟩:ByteArray).get! j).toNat=d.toNat:=by
 obtain⟨A,hg⟩:=aS.1 h;show((l.toArray)[j]!).toNat=d.toNat;simp[A,hg]
theorem c0B{l:List UInt8}{i:Nat}{c:UInt8}(h:l[i]?=some c)(N:128≤c.toNat):∀j d,i≤j→j<i+(bQ ⟨l.toArray⟩ i).2→l[j]?=some d→128≤d.toNat:=by
 intro j d _ G hd;have A:∀k,(i+k<l.length∧((⟨l.toArray⟩:ByteArray).get! (i+k)).toNat / 64=2)→j=i+k→128≤d.toNat:=by
  intro k O Q;subst Q;rw[c5n hd]at O;omega
 by_cases hj:j=i
 ·subst hj;rw[h]at hd;cases hd;exact N
 simp only[bQ]at G;have hs:(⟨l.toArray⟩:ByteArray).size=l.length:=size_mk l
 repeat' split at G
 all_goals simp only[bV,beq_iff_eq,zH,hs]at*
 all_goals first
  |omega
  | (by_cases e1:j=i+1
     ·exact A 1 (by simp_all) e1
     first
     |omega
     | (by_cases e2:j=i+2
        ·exact A 2 (by simp_all) e2
        first
        |omega
        |exact A 3 (by simp_all) oM))
theorem b5B{l A:List UInt8}{i:Nat}{c:UInt8}(N:∀c∈A,c.toNat<128)(hn:gQ l A i)(h:l[i]?=some c)(O:128≤c.toNat):gQ l A (i+(bQ ⟨l.toArray⟩ i).2):=by
 intro j d Q hd
 by_cases hji:j<i
 ·exact hn j d hji hd
 have:=c0B h O j d oM Q hd;rw[Bool.eq_false_iff];intro G;have:=N d (bK.1 G);omega
theorem b7L{l:List UInt8}{i:Nat}{c:UInt8}(h:l[i]?=some c)(G:128≤c.toNat):128≤(bQ ⟨l.toArray⟩ i).1∧1≤(bQ ⟨l.toArray⟩ i).2:=by
 obtain⟨A,hg⟩:=aS.1 h;have hs:i<(⟨l.toArray⟩:ByteArray).size:=by rw[size_mk];exact A
 exact decode_high _ _ hs (by simp[dK,hg,G])
theorem b1o(n:Int)(I:Heap):Pure aJ 192 [i64 n] I (.bool (decide (8<n))):=
 dA (bP func192 dE rfl) fun w _=>Tryz.strings_shouldUseASCIISet n w
theorem a9s(l:List UInt8)(c:UInt8)(A:c.toNat<128)(I:Heap):Pure aJ 167 [str l,.int .i32 (c.toNat:Int)] I (i64 (dV l c)):=
 dA (bP func167 dE rfl) fun w _=>by
  have h:=Tryz.strings_IndexRune_ascii ⟨l.toArray⟩ c.toNat w oM oM;have e:((c.toNat:Int)).toNat.toUInt8=c:=sI;rw[IJ,e]at h;exact h
theorem a9z(s A:List UInt8)(h8:8<s.length)(hs:s.length<4294967281)(G:∀c∈A,c.toNat<128)(h4:4≤A.length)(O:A.length≤1000000)(I:Heap):Pure aJ 137 [str s,str A] I (i64 (aN s A)):=
 fE (bP func137 dE rfl) fun w _=>by
  have h:=Tryz.strings_IndexAny_long zeroValue292 ⟨s.toArray⟩ ⟨A.toArray⟩ w (by rw[size_mk];omega) (by rw[size_mk];omega) (by rw[size_mk];omega) (by rw[size_mk];omega) (fun j b N=>G b (by rw[IJ]at N;exact FQ N));rw[IJ,IJ]at h;refine h.mono fun e w' ⟨Q,Z⟩=>⟨Q,?_⟩;subst Z;exact((RowKit.Below.refl _ _).alloc (eU _) _).alloc (by show w.heap.size≤(w.heap.push _).size;rw[Array.size_push];omega) _
theorem nonempty{l:List UInt8}(h:4≤l.length):((l == []):Bool)=false:=by cases l with
 |nil=>simp at h
 |cons a l=>rfl
theorem a7P(s A:List UInt8)(h8:s.length≤8)(a0:∀c∈A,c.toNat<128)(h4:4≤A.length)(a7:A.length≤1000000)(I:Heap):Pure aJ 137 [str s,str A] I (i64 (aN s A)):=by
 refine fD ?_;refine yS.ob func137 ?_;intro w0 _;refine Cj.sr (aA yQ ?_);refine J.zX (aY (aA yP ?_));refine aA IW ?_;refine J.ns (aZ rfl (fun a1=>aF (aX (bI (nonempty h4)) a1)) (fun a1=>?_));refine Cj.skip (aG (aK (Cj.sr (aA yP ?_))));refine aA (CG rfl rfl BU) ?_;refine aA DW ?_;refine J.ns (aZ rfl (fun a2=>aF (aX (bI (beq_eq_false_iff_ne.2 oM)) a2)) (fun a2=>?_));refine Cj.skip (aG (aK (Cj.sr (aA yP ?_))));refine aA (CG rfl rfl BU) ?_;refine bF rfl (yU rfl rfl rfl rfl rfl (b1o _ _) ?_);refine J.ns (aZ rfl (fun a3=>aF (aX (bI (zJ oM)) a3)) (fun a3=>?_));refine Cj.skip (aG (aK (Cj.sr (aA yP ?_))));refine bF rfl (OH rfl rfl rfl rfl BU ?_);intro b4 _;refine J.ns (bG (eY (ι:=Nat) (fun i=>gQ s A i) (fun i=>s.length-i) (fun i=>[(0,str s),(1,str A),(44,str s),(45,ptr b4 0)]) (fun i=>I) (fun i=>[(b4,.stringIter ⟨s.toArray⟩ i)]) 0 (Lib.NoAny.zero _ _) rT rfl rfl ?_));intro i O;rcases dR i s.length with hp|hp;obtain⟨c,h⟩:∃c,s[i]?=some c:=⟨_,DC hp⟩;rcases dR c.toNat 128 with Q|Q
 ·have G:=a2N h Q;refine Cj.sr (bF rfl (XV 0 rfl rfl rfl rfl rfl (by rw[size_mk];omega) fO ?_));refine aA AZ ?_;refine J.nss (aZ rfl (fun a4=>?_) (fun a4=>aF (aX (bI rfl) a4)));refine Cj.skip (aG (bG (Cj.sr (aA AZ ?_))));refine aA AZ ?_;refine J.eqv 49 rfl (show _= .int .i32 (c.toNat:Int) from(by rw[G])) ?_;refine aA yQ ?_;refine aA yQ ?_;refine J.yX (aA yP ?_);refine aA yP ?_;refine bF rfl (yU rfl rfl rfl rfl rfl (a9s A c Q _) ?_);refine aA (JQ rfl rfl rfl) ?_;refine J.cd (fun N=>?_) (fun N=>?_)
  ·have a8:=BH N;refine Cj.sr (aA yP ?_);refine aA yQ ?_;refine J.ns (bJ (dN (Ej.NC (dN (dQ (dP ?_))))));refine zM ?_;refine⟨?_,rfl⟩;rw[Lib.indexAny_hit O h (by rw[dW];exact N)]
  have a8:=BJ N;refine Cj.skip (bU (dD (i+(bQ ⟨s.toArray⟩ i).2) (by rw[G];exact O.succ h (by rw[dW];exact N)) (by rw[G];dsimp only;omega) rT rfl rfl))
 ·have G:=b7L h Q;have a9:=decode_le ⟨s.toArray⟩ i;refine Cj.sr (bF rfl (XV 0 rfl rfl rfl rfl rfl (by rw[size_mk];omega) fO ?_));refine aA AZ ?_;refine J.nss (aZ rfl (fun a5=>?_) (fun a5=>aF (aX (bI rfl) a5)));refine Cj.skip (aG (bG (Cj.sr (aA AZ ?_))));refine aA AZ ?_;refine aA yQ ?_;refine aA yQ ?_;refine J.yX (aA yP ?_);refine aA yP ?_;refine bF rfl (yU rfl rfl rfl rfl rfl (a6u A a0 h4 a7 _ oM oM _) ?_);refine aA (JQ rfl rfl rfl) ?_;refine J.c0 (fun _=>?_);refine Cj.skip (bU (dD (i+(bQ ⟨s.toArray⟩ i).2) (b5B a0 O h Q) oM rT rfl rfl))
 have Z:aN s A= -1:=Lib.indexAny_none fun j b _ hb=>O j b oM hb;refine Cj.sr (bF rfl (TL 0 rfl rfl rfl rfl rfl (by rw[size_mk];omega) ?_));refine aA AZ ?_;refine J.nss (aZ rfl (fun a6=>aF (aX (bI rfl) a6)) (fun a6=>?_));refine dS (bZ (dI (dB (aG (Cj.sr (aA yQ ?_))))));refine J.ns (bJ (dP ?_));refine zM ?_;refine⟨?_,rfl⟩;rw[Z]
theorem b2E(s A:List UInt8)(hs:s.length<4294967281)(N:∀c∈A,c.toNat<128)(O:4≤A.length)(G:A.length≤1000000)(I:Heap):Pure aJ 137 [str s,str A] I (i64 (aN s A)):=by
 rcases dR 8 s.length with h|h
 ·exact a9z s A h hs N O G I
 exact a7P s A h N O G I
def blanks:List UInt8:=[32,9,10,13]
def breaks:List UInt8:=[32,9,10,13,40,41,34,61,60,62]
theorem b3g(s:List UInt8)(I:Heap):Pure aJ 136 [str s,str blanks] I (str (dX s blanks)):=
 fE (bP func136 dE rfl) fun w _=>by
  have h:=Any.strings_TrimLeft_laid Tryz.lays161 kR ⟨s.toArray⟩ ⟨blanks.toArray⟩ w dE (ascii_of_all dE);rw[IJ,IJ]at h;exact h
theorem a3c(s p:List UInt8)(I:Heap):Pure aJ 56 [str s,str p] I (.bool (p.isPrefixOf s)):=
 dA (bP func56 dE rfl) fun w _=>by
  have h:=Tryz.strings_HasPrefix ⟨s.toArray⟩ ⟨p.toArray⟩ w;rw[IJ,IJ]at h;exact h
def Tabs (I:Heap):Prop:=∀w:World,(∀b o,I b=some o→w.heap[b]?=some o)→Lib.Utf8Tabs 2 3 w
theorem Tabs.mono{I A:Heap}(h:Tabs I)(G:Le I A):Tabs A:=fun w N=>h w fun b o O=>N b o (G b o O)
def PW (x:Int):Int:=if 65≤x∧x≤90 then x+32 else x
theorem Sx.Pure.below{P:Program}{f:FuncId}{args:List Value}{v:Value}(h:Sx.Pure P f args (fun _=>none) v)(w:World):Calls P f args.toArray w fun e w'=>e= .returned v∧RowKit.Below w.heap.size w w':=
 (h.2 w ⟨fun _ _ h=>(by cases h),fun _ h=>(by cases h),sI,fun _ h=>(by cases h)⟩).mono fun e w' ⟨_,H',hs,A,_,_⟩=>⟨A,hs.os,hs.tape,hs.output,hs.size,fun k G=>hs.frm k G sI⟩
def QH (s:List UInt8):List UInt8:=Lib.mapD PW s
theorem decodeL_ascii(c:UInt8)(r:List UInt8)(h:c.toNat<128):dL (c::r)=(c.toNat,1):=a2N (l:=c::r) (i:=0) rfl h
theorem a5i{c:UInt8}(r:List UInt8)(A:c.toNat<128):QH (c::r)=Cq.low c::QH r:=by
 unfold QH;rw[gW _ _ sI,decodeL_ascii c r A];have G:(0:Int)≤PW c.toNat:=by unfold PW;split<;>omega
 simp only[zG G,gX,gG];have N:PW c.toNat=(Cq.low c).toNat:=by
  unfold PW Cq.low
  by_cases h:65≤c.toNat∧c.toNat≤90
  ·rw[zG oM,zG h,UInt8.toNat_add];simp;omega
  rw[zF oM,zF h]
 have O:(Cq.low c).toNat<128:=by
  have:(0:Int)≤PW c.toNat∧PW c.toNat<128:=by unfold PW;split<;>omega
  omega
 rw[N,fB,Lib.encodeRuneZ_one oM oM];simp
theorem a3N:∀(s:List UInt8),(∀c∈s,c.toNat<128)→QH s=Cq.small s
 |[],_=>rfl
 |c::r,h=>by rw[a5i r (h c (.head _)),a3N r fun x A=>h x (.tail _ A)];rfl
theorem b2F{r:Int}(h:128≤r):∃c∈fB r,128≤c.toNat:=by
 unfold fB Lib.encodeRuneZ;rw[zF oM]
 split
 ·exact⟨_,by simp;exact .inl rfl,by simp;omega⟩
 split
 ·exact⟨_,by simp;exact .inl rfl,by simp;omega⟩
 split
 ·exact⟨_,by simp;exact .inl rfl,by simp;omega⟩
 exact⟨239,dE,dE⟩
theorem a4V:∀(s:List UInt8),(∃c∈s,128≤c.toNat)→∃c∈QH s,128≤c.toNat
 |[],h=>by obtain⟨c,h,_⟩:=h;cases h
 |c::r,h=>by
  by_cases hc:c.toNat<128
  ·obtain⟨d,hd,N⟩:=h;rcases List.mem_cons.1 hd with rfl|hd
   ·omega
   obtain⟨x,G,A⟩:=a4V r ⟨d,hd,N⟩;exact⟨x,by rw[a5i r hc];exact .tail _ G,A⟩
  have Q:=b7L (l:=c::r) (i:=0) (c:=c) rfl oM;have O:PW ((dL (c::r)).1:Int)=(dL (c::r)).1:=by
   unfold PW dL;rw[zF oM]
  unfold QH;rw[gW _ _ sI,O,zG oM];obtain⟨x,G,A⟩:=b2F (r:=(dL (c::r)).1) (by unfold dL;omega);exact⟨x,List.mem_append_left _ G,A⟩
theorem c0K{c:UInt8}(h:128≤c.toNat):Cq.low c=c:=by unfold Cq.low;rw[zF oM]
theorem VP(s w:List UInt8)(O:∀c∈w,c.toNat<128):QH s=w↔Cq.small s=w:=by
 by_cases h:∀c∈s,c.toNat<128
 ·rw[a3N s h]
 have Q:∃c∈s,128≤c.toNat:=by
  apply Classical.byContradiction;intro hn;apply h;intro c A
  rcases dR c.toNat 128 with N|N
  ·exact N
  exact absurd ⟨c,A,N⟩ hn
 constructor
 ·intro e;obtain⟨c,A,G⟩:=a4V s Q;have:=O c (e▸A);omega
 intro e;obtain⟨c,A,G⟩:=Q;have:=O c (e▸(c0K G▸List.mem_map_of_mem (f:=Cq.low) A:c∈Cq.small s));omega
theorem PK{l:List (List UInt8)}(A:∀w∈l,∀c∈w,c.toNat<128)(s:List UInt8):l.contains (QH s)=l.contains (Cq.small s)∧(l.contains (Cq.small s)=true→QH s=Cq.small s):=by
 refine⟨?_,fun h=>?_⟩
 ·rw[eP,bK,bK];exact⟨fun h=>(VP s _ (A _ h)).1 rfl▸h,fun h=>(VP s _ (A _ h)).2 rfl▸h⟩
 exact(VP s _ (A _ (bK.1 h))).2 rfl
theorem w32{n:Int}(h: -2147483648≤n∧n≤2147483647):IntKind.i32.wrap n=n:=by
 unfold IntKind.wrap;simp[IntKind.bits,IntKind.signed];omega
theorem c4W(x:Int)(Z:0≤x)(h1:x≤1114111)(I:Heap):Pure aJ 246 [.int .i32 x] I (.int .i32 (PW x)):=by
 refine yS.ob func246 ?_;intro w0 _;refine Cj.sr (aA yQ ?_);refine J.zX (aY (aA yP ?_));refine aA (JQ rfl rfl rfl) ?_;refine aA yP ?_;refine J.split 5 rfl (fun h=>?_) (fun h=>?_)
 rotate_left
 ·have O:=BJ h;have A:PW x=x:=by unfold PW;rw[zF oM]
  refine AP 2 5 6 true h ?_;refine AP 2 5 7 true h ?_;refine aA (ED h) ?_;refine J.c0 (fun _=>?_);refine Cj.skip (aG (Cj.sr (aA yP ?_)));refine aA yQ ?_;refine J.ns (bJ (zM ?_));rw[A];exact rT
 refine zU 2 5 true h (zK yP ?_);refine zU 2 5 true h (zK (ZC rfl rfl rfl) ?_);refine aA (EO h) ?_;refine J.cd (fun G=>?_) (fun G=>?_)
 ·have N:=BH G;have O:65≤x:=BH h;have Q:x≤90:=BH G;have A:PW x=x+97-65:=by unfold PW;rw[zG ⟨O,Q⟩];omega
  refine Cj.sr (aA yP ?_);refine aA (yY rfl rfl rfl (w32 oM)) ?_;refine aA (EP rfl rfl rfl (w32 oM)) ?_;refine aA yQ ?_;refine J.ns (bJ (dQ (zM ?_)));rw[A];exact rT
 have N:=BJ G;have Q:=BJ G;have A:PW x=x:=by unfold PW;rw[zF oM]
 refine Cj.skip (aG (Cj.sr (aA yP ?_)));refine aA yQ ?_;refine J.ns (bJ (zM ?_));rw[A];exact rT
theorem c4A(s:List UInt8)(hs:s.length≤10000000000)(I:Heap)(A:Tabs I):Pure aJ 170 [.func (.func 246) #[] #[],str s] I (str (QH s)):=
 fE (bP func170 dE rfl) fun w G=>by
  have h:=Tryz.strings_Map_grows 246 #[] (NI (bP func246 dE rfl)) PW ⟨s.toArray⟩ w (by rw[size_mk];omega)
   (fun W x N _=>Sx.Pure.below (c4W x oM oM _) W) (fun x N=>by unfold PW;split<;>omega) (A w G.1)
  rw[IJ]at h;exact h
theorem WV(l:List (List UInt8))(x:List UInt8)(v:Value)(hl:l.length≤1000000)(I:Heap)(G:LD 9 I l v):Pure aJ 198 [v,str x] I (.bool (l.contains x)):=by
 obtain⟨b,c,sp,rfl,N⟩:=G;refine dA (bP func198 dE rfl) fun w O=>?_;have h:=Tryz.slices_Contains_string b 0 l.length c (l.map fun y=>⟨y.toArray⟩) ⟨x.toArray⟩ w sI oM (fun j A=>by
  rw[fJ];simp at A;refine cell_of_heap (O.1 _ _ N) ?_;rw[JL (x:=l[j]) (DC A)];simp[str,DC A])
 rw[cZ sI]at h;have e:Lib.containsS (l.map fun y=>(⟨y.toArray⟩:ByteArray)) ⟨x.toArray⟩=l.contains x:=by
  rw[eP,Lib.containsS_iff,bK,List.mem_map];constructor
  ·rintro⟨y,Q,Z⟩;have e:y=x:=by simpa using zD gI Z
   exact e▸Q
  exact fun h=>⟨x,h,rfl⟩
 rw[e]at h;exact h
theorem b9d(l:List (List UInt8))(x:List UInt8)(v:Value)(Q:l.length≤1000000)(I:Heap)(G:LD 9 I l v):Pure aJ 200 [v,str x] I (i64 (fV (l.map fun y=>⟨y.toArray⟩) ⟨x.toArray⟩)):=by
 obtain⟨b,c,sp,rfl,N⟩:=G;refine dA (bP func200 dE rfl) fun w O=>?_;have h:=Tryz.slices_Index_string b 0 l.length c (l.map fun y=>⟨y.toArray⟩) ⟨x.toArray⟩ w sI oM (fun j A=>by
  rw[fJ];simp at A;refine cell_of_heap (O.1 _ _ N) ?_;rw[JL (x:=l[j]) (DC A)];simp[str,DC A])
 rw[cZ sI]at h;exact h
def opers:List (List UInt8):=[[97,110,100],[111,114],[110,111,116]]
def QZ (x:List UInt8):Int:=if x=[97,110,100]then 0 else if x=[111,114]then 1 else if x=[110,111,116]then 2 else -1
theorem ba_eq(x y:List UInt8):((⟨x.toArray⟩:ByteArray)=⟨y.toArray⟩)=(y=x):=by
 apply propext;constructor
 ·intro h;have:=zD gI h;simpa using this.symm
 rintro rfl;rfl
theorem c1k(x:List UInt8):fV (opers.map fun y=>⟨y.toArray⟩) ⟨x.toArray⟩=QZ x:=by
 unfold fV opers QZ;simp only[List.map_cons,gZ,Lib.idxFromS,ba_eq];rfl
theorem b3e(s:List UInt8):QZ (QH s)=QZ (Cq.small s):=by
 unfold QZ;simp only[VP s [97,110,100] dE,VP s [111,114] dE,VP s [110,111,116] dE]
theorem a7W(t:Cq.Tok)(h:t.kind=3):(QZ (Cq.small t.text)<0→Cq.operator t=0)∧(0≤QZ (Cq.small t.text)→(Cq.operator t:Int)=2+QZ (Cq.small t.text))∧QZ (Cq.small t.text)≤2:=by
 by_cases h1:Cq.small t.text=[97,110,100]
 ·simp[QZ,Cq.operator,h,h1]
 by_cases h2:Cq.small t.text=[111,114]
 ·simp[QZ,Cq.operator,h,h2]
 by_cases h3:Cq.small t.text=[110,111,116]
 ·simp[QZ,Cq.operator,h,h3]
 simp[QZ,Cq.operator,h,h1,h2,h3]
theorem a3M(I:Heap):yS aJ 199 [] I [] (fun e G H'=>(∃v,e= .returned v∧LD 9 G Cq.indexes v)∧H'=[]):=by
 refine yS.ob func199 ?_;intro w0 _;refine Cj.sr (aA yQ ?_);refine J.yX (bF rfl (BQ AO zS JY (bH rfl (bH rfl (bH rfl (bH rfl (bH rfl (bH rfl dU)))))) ?_));intro N A;refine aA yQ ?_;refine J.ns (bJ (fZ A (fun _ _ h=>?_)));refine zM ?_;exact⟨⟨_,rfl,N,6,[],rfl,h⟩,rfl⟩
theorem a2f(I:Heap):yS aJ 245 [] I [] (fun e G H'=>(∃v,e= .returned v∧LD 9 G Cq.relations v)∧H'=[]):=by
 refine yS.ob func245 ?_;intro w0 _;refine Cj.sr (aA yQ ?_);refine J.yX (bF rfl (BQ AO zS JY (bH rfl (bH rfl (bH rfl (bH rfl (bH rfl (bH rfl dU)))))) ?_));intro N A;refine aA yQ ?_;refine J.ns (bJ (fZ A (fun _ _ h=>?_)));refine zM ?_;exact⟨⟨_,rfl,N,6,[],rfl,h⟩,rfl⟩
theorem a9A(I:Heap):yS aJ 201 [] I [] (fun e G H'=>(∃v,e= .returned v∧LD 9 G opers v)∧H'=[]):=by
 refine yS.ob func201 ?_;intro w0 _;refine Cj.sr (aA yQ ?_);refine J.yX (bF rfl (BQ AO zS JY (bH rfl (bH rfl (bH rfl dU))) ?_));intro N A;refine aA yQ ?_;refine J.ns (bJ (fZ A (fun _ _ h=>?_)));refine zM ?_;exact⟨⟨_,rfl,N,3,[],rfl,h⟩,rfl⟩
theorem SG(s:List UInt8)(hs:s.length≤10000000000)(I:Heap)(h:Tabs I):Pure aJ 197 [str s] I (str (QH s)):=by
 refine yS.ob func197 ?_;intro w0 _;refine Cj.sr (aA yQ ?_);refine J.yX (aA yP ?_);refine bF rfl (yU rfl rfl rfl rfl rfl (c4A s hs _ h) ?_);refine aA yQ ?_;refine J.ns (bJ (zM ?_));exact rT
theorem WE(t:Cq.Tok)(hx:t.text.length≤10000000000)(I:Heap)(ht:Tabs I):Pure aJ 140 [b5o t] I (i64 (Cq.operator t:Nat)):=by
 refine fD ?_;refine yS.ob func140 ?_;intro w0 _;refine Cj.sr (bF rfl (BG ?_));intro _ _;refine aA yQ ?_;refine J.zX (aY (aA (qq2 (off':=0) DV EM) ?_));refine aA (yV JW (yR.at 0 rfl)) ?_;refine aA (GH rfl rfl rfl) ?_;refine J.cd (fun N=>?_) (fun N=>?_)
 ·have a1:=bne_iff_ne.1 N;have hk:¬t.kind=3:=oM;have O:Cq.operator t=0:=by unfold Cq.operator;rw[zG hk]
  refine Cj.sr (aA yQ ?_);refine J.ns (bJ (dQ (dP ?_)));refine zM ?_;rw[O];exact rT
 have a1:=DI N;have hk:t.kind=3:=by have:=DI N;omega
 have Z:=a7W t hk;refine Cj.skip (aG (aK (bM [0] [] 6 kR ?_)));refine bY ⟨(aQ 0 rfl aU),aV,(aP _)⟩ (fun a0=>?_);refine aC 1 rfl a0 (qq2 (off':=1) DV zS) ?_;refine aC 2 rfl a0 (yV BR (dF 0 rfl)) ?_;refine zO 0 rfl (yT (H1:=[]) rfl rfl rfl rfl rfl (a9A _) ?_ (fun _ _ _ _ h=>by obtain⟨⟨_,h,_⟩,_⟩:=h;cases h) (fun _ _ h=>by obtain⟨⟨_,h,_⟩,_⟩:=h;cases h));intro _ _ _ A a3;have ht:=ht.mono A;obtain⟨⟨_,a4,a2⟩,rfl⟩:=a3;cases a4;refine⟨⟨(bW (aP _) A),(aQ 0 rfl aU),aV⟩,?_⟩;refine zO 3 rfl (yU rfl rfl rfl rfl rfl (SG _ oM _ ht) ?_);refine⟨⟨(bW (aP _) A),(aQ 0 rfl aU),aV⟩,?_⟩;refine zO 4 rfl (yU rfl rfl rfl rfl rfl (b9d opers _ _ dE _ a2) ?_);refine⟨⟨(bW (aP _) A),(aQ 0 rfl aU),aV⟩,?_⟩;refine fG 11 rfl (show _=i64 (QZ (Cq.small t.text)) from(by rw[c1k,b3e])) ?_;refine bY ⟨(aQ 0 rfl aU),aV,(bW (aP _) A)⟩ (fun a5=>?_);refine aC 5 rfl a5 yQ ?_;refine AA ?_;refine aG (aK (Cj.sr (aA yP ?_)));refine aA AV ?_;refine J.cd (fun G=>?_) (fun G=>?_)
 ·have Q:=BH G;have O:Cq.operator t=0:=Z.1 (BH G);refine Cj.sr (aA yQ ?_);refine J.ns (bJ (dQ (dP ?_)));refine zM ?_;rw[O];exact rT
 have Q:=BJ G;have h0:=BJ G;have O:=Z.2.1 oM;refine Cj.skip (aG (Cj.sr (aA yP ?_)));refine aA (yY rfl rfl rfl (zV oM)) ?_;refine aA yQ ?_;refine J.ns (bJ (dP ?_));refine zM ?_;rw[O];exact rT
theorem a3v(t:Cq.Tok)(hx:t.text.length≤10000000000)(I:Heap)(Z:Tabs I):Pure aJ 196 [b5o t] I (.bool (Cq.relation t)):=by
 refine fD ?_;refine yS.ob func196 ?_;intro w0 _;refine Cj.sr (bF rfl (BG ?_));intro _ _;refine aA yQ ?_;refine J.nss (bM [0] [] 16 kR ?_);refine bY ⟨(aQ 0 rfl aU),aV,(aP _)⟩ (fun A=>?_);refine aC 0 rfl A (qq2 (off':=0) DV EM) ?_;refine aC 1 rfl A (yV JW (dF 0 rfl)) ?_;refine aC 2 rfl A DW ?_;refine aC 3 rfl A yP ?_;refine fC 6 rfl (fun N=>?_) (fun N=>?_)
 ·have hk:t.kind=3:=by have:=DF N;omega
  refine AY 4 3 6 false A (.inl (zD aB N)) ?_;refine AY 5 3 6 false A (.inl (zD aB N)) ?_;refine AY 6 3 6 false A (.inl (zD aB N)) ?_;refine aC 7 rfl A (EO N) ?_;refine aC 8 rfl A yP ?_;refine aW 10 8 11 true _ rfl A rfl rfl rfl (qq2 (off':=1) DV zS) ?_;refine aW 11 8 11 true _ rfl A rfl rfl rfl (yV BR (dF 0 rfl)) ?_;refine eG 9 8 11 true _ kR rfl rfl rfl rfl rfl (yT (H1:=[]) rfl rfl rfl rfl rfl (a2f _) ?_ (fun _ _ _ _ h=>by obtain⟨⟨_,h,_⟩,_⟩:=h;cases h) (fun _ _ h=>by obtain⟨⟨_,h,_⟩,_⟩:=h;cases h));intro _ _ _ Q a6;have Z:=Z.mono Q;obtain⟨⟨_,a7,a3⟩,rfl⟩:=a6;cases a7;refine⟨⟨(bW (aP _) Q),(aQ 0 rfl aU),aV⟩,?_⟩;refine eG 12 8 11 true _ kR rfl rfl rfl rfl rfl (yU rfl rfl rfl rfl rfl (SG _ oM _ Z) ?_);refine⟨⟨(bW (aP _) Q),(aQ 0 rfl aU),aV⟩,?_⟩;refine eG 13 8 11 true _ kR rfl rfl rfl rfl rfl (yU rfl rfl rfl rfl rfl (WV Cq.relations _ _ dE _ a3) ?_);refine⟨⟨(bW (aP _) Q),(aQ 0 rfl aU),aV⟩,?_⟩;refine fG 16 rfl (show _= .bool (Cq.relations.contains (Cq.small t.text)) from(by rw[(PK (l:=Cq.relations) dE t.text).1])) ?_;refine bY ⟨(aQ 0 rfl aU),aV,(bW (aP _) Q)⟩ (fun a2=>?_);refine aC 14 rfl a2 (EH rfl rfl rfl rfl) ?_;refine aC 15 rfl a2 yQ ?_;refine AA ?_;refine aG (bJ (dP ?_));refine zM ?_;refine⟨?_,rfl⟩
  simp_all[Cq.relation,nb1]
 have hk:¬t.kind=3:=by have:=DU N;omega
 refine aW 4 3 6 false _ rfl A rfl rfl N (qq2 (off':=0) DV EM) ?_;refine aW 5 3 6 false _ rfl A rfl rfl N (yV JW (dF 0 rfl)) ?_;refine aW 6 3 6 false _ rfl A rfl rfl N DW ?_;refine aC 7 rfl A (ED N) ?_;refine aC 8 rfl A yP ?_;refine fC 11 rfl (fun G=>?_) (fun G=>?_)
 rotate_left
 ·refine AY 9 8 11 true A (.inl (zD aB G)) ?_;refine AY 10 8 11 true A (.inl (zD aB G)) ?_;refine AY 11 8 11 true A (.inl (zD aB G)) ?_;refine AY 12 8 11 true A (.inl (zD aB G)) ?_;refine AY 13 8 11 true A (.inl (zD aB G)) ?_;refine aC 14 rfl A (ED G) ?_;refine aC 15 rfl A yQ ?_;refine AA ?_;refine aG (bJ (dP ?_));refine zM ?_;refine⟨?_,rfl⟩
  simp_all[Cq.relation,nb1]
 refine aW 10 8 11 true _ rfl A rfl rfl G (qq2 (off':=1) DV zS) ?_;refine aW 11 8 11 true _ rfl A rfl rfl G (yV BR (dF 0 rfl)) ?_;refine eG 9 8 11 true _ kR rfl rfl rfl rfl G (yT (H1:=[]) rfl rfl rfl rfl rfl (a2f _) ?_ (fun _ _ _ _ h=>by obtain⟨⟨_,h,_⟩,_⟩:=h;cases h) (fun _ _ h=>by obtain⟨⟨_,h,_⟩,_⟩:=h;cases h));intro _ _ _ O a4;have Z:=Z.mono O;obtain⟨⟨_,a5,a1⟩,rfl⟩:=a4;cases a5;refine⟨⟨(bW (aP _) O),(aQ 0 rfl aU),aV⟩,?_⟩;refine eG 12 8 11 true _ kR rfl rfl rfl rfl G (yU rfl rfl rfl rfl rfl (SG _ oM _ Z) ?_);refine⟨⟨(bW (aP _) O),(aQ 0 rfl aU),aV⟩,?_⟩;refine eG 13 8 11 true _ kR rfl rfl rfl rfl G (yU rfl rfl rfl rfl rfl (WV Cq.relations _ _ dE _ a1) ?_);refine⟨⟨(bW (aP _) O),(aQ 0 rfl aU),aV⟩,?_⟩;refine fG 16 rfl (show _= .bool (Cq.relations.contains (Cq.small t.text)) from(by rw[(PK (l:=Cq.relations) dE t.text).1])) ?_;refine bY ⟨(aQ 0 rfl aU),aV,(bW (aP _) O)⟩ (fun a0=>?_);refine aC 14 rfl a0 (EO G) ?_;refine aC 15 rfl a0 yQ ?_;refine AA ?_;refine aG (bJ (dP ?_));refine zM ?_;refine⟨?_,rfl⟩
 simp_all[Cq.relation,nb1]
end Go.Proofs.YtdjkhllhakhjbaaGreatDoor
namespace Go.Proofs.YtdjkhllhakhjbaaGreatDoor
open Go Go.Sx
theorem ub(c d:UInt8):((c.toNat:Int) == (d.toNat:Int))=(c == d):=by
 rw[eP,beq_iff_eq,beq_iff_eq];exact b5c c d
theorem a9c(c:UInt8):blanks.contains c=Cq.blank c:=by
 have h:=ub c 32;have A:=ub c 9;have G:=ub c 10;have N:=ub c 13;unfold Cq.blank blanks;rw[show((c.toNat:Int) == 32)=(c == 32) from h,show((c.toNat:Int) == 9)=(c == 9) from A,show((c.toNat:Int) == 10)=(c == 10) from G,show((c.toNat:Int) == 13)=(c == 13) from N];simp[gY,List.elem,Bool.or_assoc];cases c == 32<;>cases c == 9<;>cases c == 10<;>cases c == 13<;>rfl
theorem a3S(c:UInt8):breaks.contains c= !Cq.plain c:=by
 have h:=a9c c;have A:=ub c 40;have G:=ub c 41;have N:=ub c 34;have O:=ub c 61;have Q:=ub c 60;have Z:=ub c 62;unfold Cq.plain breaks;rw[←h];simp only[bne];rw[show((c.toNat:Int) == 40)=(c == 40) from A,show((c.toNat:Int) == 41)=(c == 41) from G,show((c.toNat:Int) == 34)=(c == 34) from N,show((c.toNat:Int) == 61)=(c == 61) from O,show((c.toNat:Int) == 60)=(c == 60) from Q,show((c.toNat:Int) == 62)=(c == 62) from Z];simp only[gY,List.elem,blanks];cases c == 32<;>cases c == 9<;>cases c == 10<;>cases c == 13<;>cases c == 40<;>cases c == 41<;>cases c == 34<;>cases c == 61<;>cases c == 60<;>cases c == 62<;>rfl
theorem a4b:∀l:List UInt8,(aN l breaks= -1∧l.takeWhile Cq.plain=l)∨∃n:Nat,aN l breaks=n∧n<l.length∧l.takeWhile Cq.plain=l.take n
 |[]=> .inl rT
 |c::l=>by
  rw[aN,a3S,List.takeWhile_cons];cases hp:Cq.plain c with
  |false=>exact .inr ⟨0,rfl,sI,rfl⟩
  |true=>
   rcases a4b l with⟨h,A⟩|⟨n,h,A,G⟩
   ·exact .inl ⟨by rw[h];rfl,by simp[A]⟩
   refine .inr ⟨n+1,?_,by simp;omega,by simp[G]⟩;rw[h];have:((n:Int) == -1)=false:=by rw[beq_eq_false_iff_ne];omega
   simp[this]
theorem b7r(s:List UInt8)(i:Nat)(G:i≤s.length):(i:Int)+(((s.drop i).length:Int)-((dX (s.drop i) blanks).length:Int))=(Cq.skip s i:Nat):=by
 have A:dX (s.drop i) blanks=(s.drop i).dropWhile Cq.blank:=by
  unfold dX;congr 1;funext c;exact a9c c
 have h:=zD List.length (List.takeWhile_append_dropWhile (p:=Cq.blank) (l:=s.drop i));rw[aO]at h;rw[A];unfold Cq.skip;omega
theorem WL{s:List UInt8}{i:Nat}{t:Cq.Tok}{n:Nat}(h:Cq.head (s.drop (Cq.skip s i)) (Cq.skip s i)=(t,n)):Cq.lex s i=(t,Cq.skip s i+n):=by
 unfold Cq.lex;rw[h]
theorem a5o(r:List UInt8)(j:Nat):((Cq.MC (34::r) 0).2=0→Cq.head (34::r) j=(⟨4,[],j⟩,(34::r:List UInt8).length))∧((Cq.MC (34::r) 0).2≠0→Cq.head (34::r) j=(⟨2,(Cq.MC (34::r) 0).1,j⟩,(Cq.MC (34::r) 0).2)):=by
 unfold Cq.MC Cq.head;simp only[fJ,gX,gG,if_true];cases Cq.quoted r with
 |none=>simp
 |some q=>simp;omega
theorem b3d(l:List UInt8):(Cq.MC l 0).2≤l.length:=by
 unfold Cq.MC;cases hq:Cq.quoted (l.drop (0+1))with
 |none=>simp
 |some q=>have:=Cq.XG _ _ q (eU _) hq;rw[aT]at this;simp;omega
theorem b9a{c:UInt8}{r:List UInt8}(j:Nat)(h:[61,61].isPrefixOf (c::r)=true):Cq.head (c::r) j=(⟨1,(c::r).take 2,j⟩,2):=by
 cases r with
 |nil=>simp[cO]at h
 |cons d r=>
  simp[cO]at h;obtain⟨rfl,rfl⟩:=h;rfl
theorem c2p{c:UInt8}{r:List UInt8}(j:Nat)(h:[62,61].isPrefixOf (c::r)=true):Cq.head (c::r) j=(⟨1,(c::r).take 2,j⟩,2):=by
 cases r with
 |nil=>simp[cO]at h
 |cons d r=>
  simp[cO]at h;obtain⟨rfl,rfl⟩:=h;rfl
theorem b3q{a b c:UInt8}{r:List UInt8}(h:[a,b].isPrefixOf (c::r)=true):2≤(c::r).length:=by
 cases r with
 |nil=>simp[cO]at h
 |cons d r=>simp
theorem a2b{a b c:UInt8}{r:List UInt8}(h:[a,b].isPrefixOf (c::r)=false):¬(c=a∧r.head?=some b):=by
 rintro⟨rfl,A⟩;cases r with
 |nil=>simp at A
 |cons d r=>simp at A;subst A;simp[cO]at h
theorem c1m{c:UInt8}{r:List UInt8}(j:Nat)(h:c=62)(A:[62,61].isPrefixOf (c::r)=false):Cq.head (c::r) j=(⟨4,[],j⟩,0):=by
 have:=a2b A;subst h;unfold Cq.head;simp at this;simp[this]
theorem c1T(r:List UInt8):aN (62::r) breaks=0:=by rw[aN];rfl
theorem b8Y{c:UInt8}{r:List UInt8}(j:Nat)(G:c≠34)(O:[61,61].isPrefixOf (c::r)=false)(Q:[62,61].isPrefixOf (c::r)=false)(N:c≠62)(h:aN (c::r) breaks=0):Cq.head (c::r) j=(⟨1,(c::r).take 1,j⟩,1):=by
 have A:Cq.plain c=false:=by
  rw[aN,a3S]at h;cases A:Cq.plain c with
  |false=>rfl
  |true=>
   rw[A]at h;have:=Lib.indexAny_ge breaks r;rw[Bool.not_true,zF sI]at h
   by_cases h3:aN r breaks= -1
   ·rw[h3]at h;cases h
   rw[zF (by simpa using h3)]at h;omega
 unfold Cq.head;dsimp only;rw[zF G,zF (a2b O),zF (a2b Q),zF N,A];rfl
theorem a8q{c:UInt8}{r:List UInt8}(j:Nat)(A:c≠34)(N:[61,61].isPrefixOf (c::r)=false)(O:[62,61].isPrefixOf (c::r)=false)(G:c≠62)(Q:aN (c::r) breaks≠0):Cq.head (c::r) j=(⟨3,(c::r).takeWhile Cq.plain,j⟩,((c::r).takeWhile Cq.plain).length):=by
 have h:Cq.plain c=true:=by
  cases h:Cq.plain c with
  |true=>rfl
  |false=>exact absurd (by rw[aN,a3S,h];rfl) Q
 unfold Cq.head;dsimp only;rw[zF A,zF (a2b N),zF (a2b O),zF G,h];rfl
