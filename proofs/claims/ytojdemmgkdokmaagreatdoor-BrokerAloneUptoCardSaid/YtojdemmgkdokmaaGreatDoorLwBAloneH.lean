/-
  The law BrokerAlone. Own text, printed by a program. Conditions: none.
-/
import Derived.Test.YtojdemmgkdokmaaGreatDoorNmH
import Derived.Test.YtojdemmgkdokmaaGreatDoorPH20
import Derived.Test.YtojdemmgkdokmaaGreatDoorPH23
set_option linter.all false
set_option maxRecDepth 100000
set_option maxHeartbeats 40000000
open Go.Sx.J renaming z -> aA,eqv -> aH,op -> aQ
open Go.Sx.Le renaming trans -> aB,refl -> aG
open Go.Sx.HSub renaming c -> aC,n -> aI
open Go.Value renaming bool -> aF
open Go.Sx.CSub renaming n -> aJ
open Cq renaming parse -> aK
open Go.Sx.JA renaming tk -> aN,fix -> bI
open Go.Sx.zM renaming c -> aO
open Nat renaming le_of_ble_eq_true -> aP,le_refl -> aY
open Bk renaming PN -> aS,found -> aV
open Go.Sx.Cj renaming region -> aT,seq -> aX,block -> bD
open Go.Sx.Keeps renaming k -> aU
open Go.Sx.CG renaming none -> aW,one -> bC
open Ix renaming a1g -> aZ
open Option.some renaming inj -> bF
open List renaming length_map -> bG,mem_map -> bH
open Go.Sx.AV renaming z -> bJ
open Go.Sx.zY renaming of -> bK
namespace Go.Proofs.YtojdemmgkdokmaaGreatDoor
open _root_.Go.Proofs.Tryz
open Go Go.Sx
theorem b1q{A B H}(h:HSub A H):HSub A (B++H):=by
 induction A with
 |nil=>trivial
 |cons p r G=>exact⟨List.mem_append_right _ h.1,G h.2⟩
theorem b2L{I b T h x}(A:TP I h x)(G:I b=some (yY T [ptr h 0])):MF I [(ptr h 0,some x)] (.slice (some ⟨b,0,none⟩) 1 1):=⟨bK (l:=[(ptr h 0,some x)]) (sp:=[]) (aY _) G,fun z hz=>by rw[List.mem_singleton.1 hz];exact .inr ⟨h,x,rfl,rfl,A⟩⟩
theorem c1z{id xs}:∀{f:Bk.Fd},Bk.gn id xs=some f→∃x∈xs,x.t=f.t:=by
 refine Bk.MV (P:=fun xs=>∀{f:Bk.Fd},Bk.gn id xs=some f→∃x∈xs,x.t=f.t) (fun {f} h=>by cases h) (fun xs x O=>?_) xs;intro f h;rw[Bk.a2D,Bk.a7d]at h
 by_cases hx:Bk.DF x=id
 ·rw[zG hx]at h;cases hg:Bk.gn id xs with
  |none=>
   rw[hg]at h;have h2:Bk.norm x=f:=bF h;exact⟨x,sI,by rw[←h2];rfl⟩
  |some g=>
   rw[hg]at h;have h2:Bk.jn g (Bk.norm x)=f:=bF h;obtain⟨y,G,A⟩:=O hg;have h3:f.t=Bk.ZX g.t x.t:=by rw[←h2];rfl
   unfold Bk.ZX at h3
   split at h3
   ·exact⟨x,sI,h3.symm⟩
   exact⟨y,by simp[G],by rw[A,h3]⟩
 rw[zF hx,Bk.a5u]at h;obtain⟨y,G,A⟩:=O h;exact⟨y,by simp[G],A⟩
theorem c2V{b r A}(h:Bk.JR (aV b r 0) A):(∀f∈A,f.t∈r∧f.p=[0])∧A.length≤r.length∧(A.length=0→r.length=0):=by
 refine⟨fun f hf=>?_,?_,fun h0=>?_⟩
 ·obtain⟨id,hg⟩:=(h.b7g f).1 hf;obtain⟨x,G,O⟩:=c1z hg;refine⟨?_,?_⟩
  ·unfold aV at G;obtain⟨t,Z,rfl⟩:=bH.1 G;rw[←O];exact Z
  rw[Bk.a7i]at hg;exact Bk.c3V hg
 ·have:=h.len;unfold aV at this
  rwa [bG]at this
 cases r with
 |nil=>rfl
 |cons t r=>
  obtain⟨f,hf,_⟩:=h.forth (x:=⟨t,b.key t,[((0:Nat):Int)]⟩) (by unfold aV;exact bH.2 ⟨t,.head _,rfl⟩);rw[List.length_eq_zero_iff.1 h0]at hf;cases hf
theorem b9X{p b S G}(Z:S.length=1)(hA:KT p [some b] S)(A:Bk.JR (flt Fv.f (S.map Prod.fst)) G):
 (p.2.2≠0→G=[]∧S.map Prod.snd=[(p.2.2:Int)])∧(p.2.2=0→S.map Prod.snd=[0]∧∃r,Ix.QI b.L p.1 r∧Bk.JR (aV b r 0) G):=by
 match S,Z with
 |[x],_=>
  obtain⟨o,ho,h⟩:=hA 0 x rfl;cases ho;have e1:flt Fv.f ([x].map Prod.fst)=x.1.l.map Fv.f++[]:=rfl;rw[e1,List.append_nil]at A;unfold Bk.ans at h;refine⟨fun O=>?_,fun O=>?_⟩
  ·rw[zG O]at h;rw[h.1]at A;exact⟨Bk.a8P A,by show[x.2]=_;rw[h.2]⟩
  rw[zF oM]at h;obtain⟨h1,r,h2,h3⟩:=h;rw[h3]at A;exact⟨by show[x.2]=_;rw[h1],r,h2,A⟩
theorem b4W(es:List RJ):(aS (es.map JB)).L=aZ (es.map OJ) []:=by
 unfold aS;dsimp only;rw[List.map_map];rfl
theorem b6A{α:Type}{l:List α}{k x}(h:l[k]?=some x):l.take (k+1)=l.take k++[x]:=by
 rw[List.take_add_one,h];rfl
structure TAl where
  i:Nat
  l:ML Ix.Rec
  c:Nat
theorem a9g xs v q (ce:TD xs)(hq:q.raw.length≤1048576) I (G:MW I)(ht:Tabs I)(hX:QK I xs v):Pure Tryz.prog 6 [v,.agg (VR q).toArray] I (.bool true):=by
 refine yT.toPure ?_;have cf:=Bk.a2a q.k q.a q.b q.raw;have dk:q.t.length≤1100000:=IU cf oM;obtain⟨_,ca,rfl⟩:=rowLen hX.1;have dl:xs.length≤ca:=by obtain⟨_,_,br,ch,-⟩:=id hX.1;cases br;exact ch
 refine yT.ob func6 ?_;intro w0 am;refine Cj.sr (aQ rfl (BL ?_));intro b1 bd;refine aA yQ ?_;refine J.yV (aQ rfl (yU rfl rfl rfl rfl rfl (a1U _ G ht) ?_));refine aA yQ ?_;refine J.yV (aA yP ?_);refine aA yP ?_;refine aA (AU a4N) ?_;refine aA (LV rfl rfl rfl) ?_;refine aA (LG (k:=(min xs.length 8)) rfl rfl rfl a4N sizeOf85 (by split<;>omega) oM) ?_;refine aQ rfl (yS (H1:=[]) rfl rfl rfl rfl rfl (a2Y (xs.take 8) _ (fun x9 a4=>ce x9 (List.mem_of_mem_take a4)) _ hX.take8) ?_ (fun _ _ _ _ ⟨_,_,h,_⟩=>by cases h) (fun _ _ ⟨_,_,h,_⟩=>by cases h));intro _ I3 _ ap ci;have G:=G.mono ap;have ht:=ht.mono ap;have hX:=hX.mono ap;obtain⟨es,_,h,hE,cj,be,_,rfl⟩:=ci;cases h;have bt:=b1c cj;obtain⟨pw,cw,rfl⟩:=rowLen hE.1;refine aA yQ ?_;refine J.nss (Cj.FT [0] [] 11 kR ?_);refine JA.join (ι:=Heap×Nat×Nat) (fun y=>Le I3 y.1∧MF y.1 [(ptr y.2.1 0,some (aS (es.map JB)))] (.slice (some ⟨y.2.2,0,none⟩) 1 1)) (fun y=>[(3,ptr b1 0),(5,.bool true),(6,.slice pw es.length cw),(29,.slice (some ⟨y.2.2,0,none⟩) 1 1),(31,str q.t)]) (fun y=>y.1) (fun y=>[(b1,yY 24 (VR q))]) #[true,true,true,true,true,false,false,false,false,false,false] 6 ?_ (fun an=>?_)
 ·rintro⟨_,la,_⟩ ⟨af,A⟩;dsimp only at af A ⊢;have G:=G.mono af;have ht:=ht.mono af;have hE:=hE.mono af;refine zT 5 rfl (yS (H1:=[]) rfl rfl rfl rfl rfl (UD [(ptr la 0,some (aS (es.map JB)))] _ q.t 1000 oM (PO oM) (aP rfl) _ A G ht) ?_ (fun _ _ _ _ ⟨_,_,_,_,h,_⟩=>by cases h) (fun _ _ ⟨_,_,_,_,h,_⟩=>by cases h));intro _ _ _ ad bu;have G:=G.mono ad;have ht:=ht.mono ad;have hE:=hE.mono ad;have A:=A.mono ad;obtain⟨Sx,rx,_,_,h,cm,co,cp,a3,a5,O,rfl⟩:=bu;cases h;obtain⟨px,cx,rfl⟩:=rowLen a3;obtain⟨_,_,rfl⟩:=rowLen O;refine⟨⟨(aB af ad),(aC 0 rfl aI),aJ⟩,?_⟩;refine bI ⟨(aC 0 rfl aI),aJ,(aB af ad)⟩ (fun ag=>?_);refine aN 6 rfl ag yP ?_;refine aN 7 rfl ag AQ ?_;refine aN 8 rfl ag AQ ?_;refine aN 9 rfl ag yQ ?_;refine aN 10 rfl ag yQ ?_;refine AL ?_;refine Ej.seq (Cj.sr (aA (zX isAgg24 sizeOf24 (yR.at 0 rfl)) ?_));refine aQ rfl (yU rfl rfl rfl rfl rfl (OC q _) ?_);refine aQ rfl (yS (H1:=[]) rfl rfl rfl rfl rfl (b8o q.t oM _) ?_ (fun _ _ _ _ h=>by obtain⟨⟨_,h,_⟩,_⟩:=h;cases h) (fun _ _ h=>by obtain⟨⟨_,h,_⟩,_⟩:=h;cases h));intro _ _ _ aa bv;have G:=G.mono aa;have ht:=ht.mono aa;have hE:=hE.mono aa;have A:=A.mono aa;have a3:=a3.mono aa;have a5:=fun x9 a4=>(a5 x9 a4).mono aa;have O:=O.mono aa;obtain⟨⟨_,h,pq,cq,rfl,a9⟩,rfl⟩:=bv;cases h;refine aA yP ?_;refine aA AQ ?_;refine aA AQ ?_;refine aA AQ ?_;refine aQ rfl (BP FQ ?_);intro bf _;refine aQ rfl (zS 0 zZ (aO (aO (aO (aO (aO zM.z))))) bJ ?_);refine aA yQ ?_;refine aA yQ ?_;refine J.AO ?_;obtain⟨bw,b3⟩:=b9X cm co cp;refine aT (aA yP ?_);refine aA EY ?_;refine J.cd (fun ah=>?_) (fun ah=>?_)
  ·have b4:=bne_iff_ne.1 ah;have am:(aK q.t).2.2≠0:=by have h9:=bne_iff_ne.1 ah;omega
   obtain⟨hrx,ax⟩:=bw am;obtain rfl:=List.map_eq_nil_iff.1 hrx;rw[ax]at O ⊢;refine Cj.sr (aA yP ?_);refine aA yP ?_;refine CZ 1 45 true (zK yP ?_);refine CZ 1 45 true (zK (AU EW) ?_);refine CZ 1 45 true (zK BO ?_);refine aH 48 rfl (show _= .bool true from(zD aF (by rw[List.take_nil];rfl))) ?_;refine aA JV ?_;refine aA yP ?_;refine CZ 6 50 true (zK yP ?_);refine CZ 6 50 true (zK yP ?_);refine CZ 6 50 true (AZ RY JJ a4I (bC rfl aW) ?_);intro cr bx;refine J.persist bx (fun _ a7 b5=>?_);have G:=G.mono a7;have ht:=ht.mono a7;have hE:=hE.mono a7;have A:=A.mono a7;have a3:=a3.mono a7;have a5:=fun x9 a4=>(a5 x9 a4).mono a7;have O:=O.mono a7;have a9:=a9.mono a7;have bz:zY GY _ ([(((aK q.t).2.2:Nat):Int)]:List Int) (.slice (some ⟨cr,0,none⟩) 1 1):=bK (l:=([(((aK q.t).2.2:Nat):Int)]:List Int)) (sp:=[]) (aY _) b5;refine CZ 6 50 true (yU rfl rfl rfl rfl rfl (YG [(((aK q.t).2.2:Nat):Int)] [(((aK q.t).2.2:Nat):Int)] _ _ (aP rfl) _ O bz) ?_);refine aH 54 rfl (show _= .bool true from(zD aF (zI rfl))) ?_;refine aA JV ?_;refine aA yQ ?_;refine J.ns (Cj.rs (Ej.bare ?_));refine zN ?_;exact rT
  have b4:=EC ah;have am:(aK q.t).2.2=0:=by have h9:=EC ah;omega
  obtain⟨ax,r,ay,hMr⟩:=b3 am;obtain⟨cu,hlr,cy⟩:=c2V hMr;rw[ax]at O ⊢;have dm:r.length≤8:=IU ay.len (IU (a5x es) bt);rw[bG]at hlr cy;have cz:rx.take (1000:Int).toNat=rx:=List.take_of_length_le (by show rx.length≤1000;omega);rw[cz]at a3 ⊢;refine Cj.ks (aX ?_);have bg:=PO (s:=q.t) oM;have d0:Ix.TOK (aZ (es.map OJ) []):=by
   rcases A.2 _ (.head _)with⟨_,h2⟩|⟨dq,b9,_,h2,d1⟩
   ·cases h2
   cases h2;obtain⟨_,_,_,_,_,_,h9,_⟩:=d1
   rwa [b4W]at h9
  refine Cj.FT [0,1] [] 9 kR ?_;refine bI ⟨(aC 0 rfl (aC 1 rfl aI)),aJ,(aG _)⟩ (fun az=>?_);refine aN 0 rfl az yP ?_;refine aN 2 rfl az (zX CP zZ (yR.QE 0 rfl)) ?_;refine zT 1 rfl (FU rfl rfl rfl rfl rfl (b1V es _ oM be _ hE) ?_ (fun _ _ _ _ ⟨_,_,h,_⟩=>by cases h) (fun _ _ ⟨_,_,h,_⟩=>by cases h));intro _ _ _ Z c2 c3;have G:=G.mono Z;have ht:=ht.mono Z;have hE:=hE.mono Z;have A:=A.mono Z;have a3:=a3.mono Z;have a5:=fun x9 a4=>(a5 x9 a4).mono Z;have O:=O.mono Z;have a9:=a9.mono Z;obtain⟨ib,o9,h,aq,rfl⟩:=c3;cases h;have d2:=c2;refine⟨⟨(aB (aG _) Z),(b1q (aC 0 rfl (aC 1 rfl aI))),aJ⟩,?_⟩;refine JA.persists (ixH ib o9) d2 (fun I7 a6 d3=>?_);have G:=G.mono a6;have ht:=ht.mono a6;have hE:=hE.mono a6;have A:=A.mono a6;have a3:=a3.mono a6;have a5:=fun x9 a4=>(a5 x9 a4).mono a6;have O:=O.mono a6;have a9:=a9.mono a6;have aq:=aq.mono a6;have ai:UW I7 ib (aZ (es.map OJ) []):=⟨o9,aq,d3⟩;refine zT 3 rfl (FU rfl rfl rfl rfl rfl (b7Z (ptr ib 0) (aZ (es.map OJ) []) (aK q.t).1 pq cq bg.1 bg.2 ((Cq.a6a q.t).1 am).1 d0 _ a9 (.inr ⟨ib,rfl,ai⟩) G) ?_ (fun _ _ _ _ ⟨_,_,h,_⟩=>by cases h) (fun _ _ ⟨_,_,h,_⟩=>by cases h));intro _ _ _ a0 c4 c5;have G:=G.mono a0;have ht:=ht.mono a0;have hE:=hE.mono a0;have A:=A.mono a0;have a3:=a3.mono a0;have a5:=fun x9 a4=>(a5 x9 a4).mono a0;have O:=O.mono a0;have a9:=a9.mono a0;have ai:=ai.mono a0;obtain⟨_,rt,h,b6,d4⟩:=c5;cases h;have d5:=c4;refine⟨⟨(aB (aB (aB (aG _) Z) a6) a0),(b1q (aC 0 rfl (aC 1 rfl aI))),aJ⟩,?_⟩;refine JA.a5B d4 d5 (fun _ a8 ak=>?_);have G:=G.mono a8;have ht:=ht.mono a8;have hE:=hE.mono a8;have A:=A.mono a8;have a3:=a3.mono a8;have a5:=fun x9 a4=>(a5 x9 a4).mono a8;have O:=O.mono a8;have a9:=a9.mono a8;have ai:=ai.mono a8;replace ak:=ak.row;obtain rfl:rt=r:=b6.eq (by rw[←b4W];exact ay);obtain⟨pt,ct,rfl⟩:=rowLen ak;refine bI ⟨(aC 0 rfl (aC 1 rfl aI)),aJ,(aB (aB (aB (aB (aG _) Z) a6) a0) a8)⟩ (fun aj=>?_);refine aN 4 rfl aj yP ?_;refine aN 5 rfl aj AQ ?_;refine aN 6 rfl aj AQ ?_;refine aN 7 rfl aj yQ ?_;refine aN 8 rfl aj yQ ?_;refine AL ?_;refine Ej.seq (aX (Cj.sr (aA yP ?_)));refine aA yP ?_;refine aQ rfl (AZ RY JJ a4I (bC rfl aW) ?_);intro d6 c6;refine J.persist c6 (fun _ a2 b7=>?_);have G:=G.mono a2;have ht:=ht.mono a2;have hE:=hE.mono a2;have A:=A.mono a2;have a3:=a3.mono a2;have a5:=fun x9 a4=>(a5 x9 a4).mono a2;have O:=O.mono a2;have a9:=a9.mono a2;have ai:=ai.mono a2;have ak:=ak.mono a2;have c7:zY GY _ ([0]:List Int) (.slice (some ⟨d6,0,none⟩) 1 1):=bK (l:=([0]:List Int)) (sp:=[]) (aY _) b7;refine aQ rfl (yU rfl rfl rfl rfl rfl (YG [0] [0] _ _ (aP rfl) _ O c7) ?_);refine aH 66 rfl (show _= .bool true from(zD aF (zI rfl))) ?_;refine aA (ER rfl rfl) ?_;refine J.ns (Cj.cond rfl (fun b0=>Bool.noConfusion (Eq.trans (Eq.symm (zD not rfl)) b0)) (fun b0=>?_));refine Cj.ks (Cj.sr (aQ rfl (CB rfl rfl rfl ?_)));intro av _;refine aA yQ ?_;refine J.AO (aT (aA yP ?_));refine aA (AU OU) ?_;refine aA yP ?_;refine J.ns (bD (Cj.loop (ι:=TAl) (fun y=>y.i≤rt.length∧a2Z y.l y.c (rt.take y.i)) (fun y=>rt.length-y.i) (fun y=>[(5,.bool true),(7,.slice px rx.length cx),(12,.slice pt rt.length ct),(13,i64 0),(14,.map (some av)),(69,.slice pt rt.length ct),(70,i64 (rt.length:Int)),(71,i64 (y.i:Int))]) (fun y=>_) (fun y=>[(av,BD BI y.l y.c),(bf,yY 66 (EX (aK q.t).1 pq cq)),(b1,yY 24 (VR q))]) ⟨0,[],0⟩ ⟨Nat.zero_le _,a2Z.nil⟩ rT rfl rfl ?_));rintro⟨i,bh,d7⟩ ⟨hi,aw⟩;dsimp only at hi aw ⊢;refine Cj.sr (aA BM ?_);refine J.nss (Cj.cond rfl (fun ar=>?_) (fun ar=>?_))
  ·have b8:=BH ar;have ao:i<rt.length:=oM;obtain⟨x,bi⟩:∃x,rt[i]?=some x:=⟨_,DX ao⟩;obtain⟨_,_,d8,_,hp⟩:=id ak;cases d8;obtain⟨tb,d9,_,_,_,_,rfl,da,db⟩:=hp (AX ao);refine Cj.ks (aX (bD (Cj.sr (aA (BG (off':=d9+i*2) OU AY) ?_))));refine aA (FH EI AY (yR.TS da) (EJ GX db bi)) ?_;refine aQ rfl (BP QZ ?_);intro _ _;refine aQ rfl (zS 0 AY (aO (aO zM.z)) bJ ?_);refine J.GL (aA yP ?_);refine aA (zX EI AY (yR.at 0 rfl)) ?_;refine aH 76 rfl (show _=BI x from rfl) ?_;refine aQ rfl (FZ (kv:=BI) (a:=x) 1 (.inr rfl) rfl rfl rfl rfl rfl underlying75 GR rfl (AV.s bJ) ?_);refine J.nb (aT (aA (yZ rfl rfl rfl (AA oM)) ?_));refine aA yP ?_;refine J.nil (Ej.keep (Keeps.d (aU (aU (aU Keeps.n)))) ?_);refine Ej.round ⟨i+1,_,_⟩ ⟨dO,by dsimp only;rw[b6A bi];exact aw.put x⟩ dO rT rfl rfl
  have b8:=BN ar;refine Cj.xl (aX (aX ?_));have dc:i=rt.length:=oM;rw[dc,List.take_length]at aw;refine aT (aA yP ?_);refine aA (AU EW) ?_;refine aA yP ?_;refine J.ns (bD (Cj.loop (ι:=Nat) (fun y=>y≤rx.length) (fun y=>rx.length-y) (fun y=>[(5,.bool true),(7,.slice px rx.length cx),(12,.slice pt rt.length ct),(13,i64 0),(14,.map (some av)),(78,.slice px rx.length cx),(79,i64 (rx.length:Int)),(80,i64 (y:Int))]) (fun y=>_) (fun y=>[(av,BD BI bh d7),(bf,yY 66 (EX (aK q.t).1 pq cq)),(b1,yY 24 (VR q))]) 0 (Nat.zero_le _) rT rfl rfl ?_));intro j _;refine Cj.sr (aA BM ?_);refine J.nss (Cj.cond rfl (fun au=>?_) (fun au=>?_))
  ·have hc44p:=BH au;have ao:j<rx.length:=oM;obtain⟨x,bj⟩:∃x,rx[j]?=some x:=⟨_,DX ao⟩;have bl:=FB bj;obtain⟨dd,hxp⟩:=cu x.f (List.mem_map_of_mem bl);have de:=a5 x bl;obtain⟨q1,_,df,_,bd⟩:=id a3;cases df;obtain⟨_,xo,_,_,_,_,rfl,dg,dh⟩:=bd (AX ao);obtain⟨_,k3,bm,_,di⟩:=id de.1;obtain⟨nb,no,_,_,_,_,c8,dj,bn⟩:=di (by rw[hxp];exact List.cons_ne_nil _ _);rw[c8]at bm;have bo:x.v= .slice (some ⟨nb,no,none⟩) 1 k3:=by rw[bm,hxp];rfl
   rw[hxp]at bn;refine Cj.ks (aX (bD (Cj.sr (aA (BG (off':=xo+j*4) EW EL) ?_))));refine aA (FH UU EL (yR.TS dg) (EJ EO dh bj)) ?_;refine aQ rfl (BP NQ ?_);intro _ _;refine aQ rfl (zS 0 EL (aO (aO (aO (aO zM.z)))) bJ ?_);refine J.yV (aA yP ?_);refine aA (qq2 (off':=0) GI AY) ?_;refine aA (zX EI AY (yR.at 0 rfl)) ?_;refine aH 86 rfl (show _=BI x.f.t from rfl) ?_;refine aA (CO (kv:=BI) (l:=bh) (a:=x.f.t) rfl rfl rfl rfl underlying75 GR tZ4 (yR.at 1 rfl)) ?_;refine aH 87 rfl (show _= .bool true from((aw.get x.f.t).trans (zD aF (zI dd)))) ?_;refine aA (ER rfl rfl) ?_;refine aA yP ?_;refine zU 5 89 false (zD not rfl) (zK (qq2 (off':=3) GI IG) ?_);refine zU 5 89 false (zD not rfl) (zK (yX MX (yR.at 0 rfl)) ?_);refine aH 91 rfl (show _= .slice (some ⟨nb,no,none⟩) 1 k3 from bo) ?_;refine zU 5 89 false (zD not rfl) (zK (AU JW) ?_);refine zU 5 89 false (zD not rfl) (zK EY ?_);refine aH 93 rfl (show _= .bool false from rfl) ?_;refine aA (DV (zD not rfl)) ?_;refine aA yP ?_;refine CZ 11 95 false (zK (qq2 (off':=3) GI IG) ?_);refine CZ 11 95 false (zK (yX MX (yR.at 0 rfl)) ?_);refine aH 97 rfl (show _= .slice (some ⟨nb,no,none⟩) 1 k3 from bo) ?_;refine J.QD 11 95 false _ rfl rfl rfl rfl (IE (BZ (off':=no+0) rfl rfl rfl JW AB dE dE sI) rfl rfl ?_);refine CZ 11 95 false (zK (EN DT (yR.TS dj) (OZ bn (k:=0) rfl)) ?_);refine CZ 11 95 false (zK EY ?_);refine aH 100 rfl (show _= .bool false from rfl) ?_;refine aA IL ?_;refine J.c0 (fun _=>?_);refine Cj.kb (aT (aA (yZ rfl rfl rfl (AA oM)) ?_));refine aA yP ?_;refine J.nil (Ej.keep (Keeps.d (aU (aU (aU Keeps.n)))) ?_);refine Ej.round (j+1) oM oM rT rfl rfl
  have hc44p:=BN au;refine Cj.xl (Cj.sr (aA yP ?_));refine aA yP ?_;refine CZ 1 104 true (zK yP ?_);refine CZ 1 104 true (zK (AU EW) ?_);refine CZ 1 104 true (zK yP ?_);refine CZ 1 104 true (zK (AU OU) ?_);refine CZ 1 104 true (zK (WA rfl rfl rfl) ?_);refine aH 109 rfl (show _= .bool true from(zD aF (zI oM))) ?_;refine aA JV ?_;refine aA yP ?_;refine CZ 8 111 true (zK yP ?_);refine CZ 8 111 true (zK (AU EW) ?_);refine CZ 8 111 true (zK (KO rfl rfl rfl) ?_);refine CZ 8 111 true (zK yP ?_);refine CZ 8 111 true (zK (AU OU) ?_);refine CZ 8 111 true (zK (KO rfl rfl rfl) ?_);refine CZ 8 111 true (zK yP ?_);refine J.split 118 rfl (fun ab=>?_) (fun ab=>?_)
  ·have ba:=BH ab;refine aH 114 rfl (show _=aF true from zD aF (zI oM)) ?_;refine zU 15 118 true ab (zK yP ?_);refine zU 15 118 true ab (zK BO ?_);refine aH 120 rfl (show _= .bool true from rfl) ?_;refine CZ 8 111 true (zK (DY ab) ?_);refine CZ 8 111 true (zK (a3Q rfl rfl rfl tU4) ?_);refine aH 122 rfl (show _= .bool true from rfl) ?_;refine aA JV ?_;refine aA yQ ?_;refine J.ns (Cj.ret (Ej.bare ?_));refine zN ?_;exact rT
  have ba:=BN ab;refine aH 114 rfl (show _=aF false from zD aF (zJ oM)) ?_;refine zO 15 118 119 true ab ?_;refine zO 15 118 120 true ab ?_;refine CZ 8 111 true (zK (DV ab) ?_);refine CZ 8 111 true (zK (a3Q rfl rfl rfl tU4) ?_);refine aH 122 rfl (show _= .bool true from rfl) ?_;refine aA JV ?_;refine aA yQ ?_;refine J.ns (Cj.ret (Ej.bare ?_));refine zN ?_;exact rT
 refine bI ⟨(aC 0 rfl aI),aJ,(aG _)⟩ (fun b2=>?_);refine aN 0 rfl b2 yP ?_;refine aN 3 rfl b2 (zX isAgg24 sizeOf24 (yR.QE 0 rfl)) ?_;refine zT 1 rfl (yS (H1:=[]) rfl rfl rfl rfl rfl (UJ es _ oM be _ hE) ?_ (fun _ _ _ _ ⟨_,h,_⟩=>by cases h) (fun _ _ ⟨_,h,_⟩=>by cases h));intro _ _ _ a1 c9;have G:=G.mono a1;have ht:=ht.mono a1;have hX:=hX.mono a1;have hE:=hE.mono a1;obtain⟨la,h,al,rfl⟩:=c9;cases h;refine⟨⟨(aB (aG _) a1),(aC 0 rfl aI),aJ⟩,?_⟩;refine JA.all [2,4] kR sI ?_;intro i hi;simp only[List.mem_cons,List.not_mem_nil,or_false]at hi;rcases hi with rfl|rfl
 ·refine⟨_,rfl,rfl,?_⟩;refine AZ a0I a1G a2w (bC rfl aW) ?_;intro bp hb54;refine⟨⟨(aB (aG _) a1),(aC 1 rfl aI),aJ⟩,?_⟩;refine JA.persist hb54 (fun _ ac bb=>?_);have G:=G.mono ac;have ht:=ht.mono ac;have hX:=hX.mono ac;have hE:=hE.mono ac;have al:=al.mono ac;have A:MF _ [(ptr la 0,some (aS (es.map JB)))] (.slice (some ⟨bp,0,none⟩) 1 1):=b2L al bb;refine zT 4 rfl (yU rfl rfl rfl rfl rfl (OC q _) ?_);refine⟨⟨(aB (aB (aG _) a1) ac),(aC 0 rfl aI),aJ⟩,?_⟩;exact an (_,la,bp) _ _ _ _ _ ⟨(aB (aB (aG _) a1) ac),A⟩ kR rfl rT rfl rfl
 refine⟨_,rfl,rfl,?_⟩;refine yU rfl rfl rfl rfl rfl (OC q _) ?_;refine⟨⟨(aB (aG _) a1),(aC 0 rfl aI),aJ⟩,?_⟩;refine zT 2 rfl (AZ a0I a1G a2w (bC rfl aW) ?_);intro bq cb;refine⟨⟨(aB (aG _) a1),(aC 1 rfl aI),aJ⟩,?_⟩;refine JA.persist cb (fun _ ae bc=>?_);have G:=G.mono ae;have ht:=ht.mono ae;have hX:=hX.mono ae;have hE:=hE.mono ae;have al:=al.mono ae;have A:MF _ [(ptr la 0,some (aS (es.map JB)))] (.slice (some ⟨bq,0,none⟩) 1 1):=b2L al bc;exact an (_,la,bq) _ _ _ _ _ ⟨(aB (aB (aG _) a1) ae),A⟩ kR rfl rT rfl rfl
end Go.Proofs.YtojdemmgkdokmaaGreatDoor
