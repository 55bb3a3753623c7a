/-
  Own texts on the laws of the seat, joined: the logic, and contracts of functions. Conditions: none.
-/
import Derived.Test.YtekmeaoblpfnpaaGreatDoorNmA
import Derived.Test.YtekmeaoblpfnpaaGreatDoorPA13
set_option linter.all false
set_option maxRecDepth 100000
set_option maxHeartbeats 40000000
section
namespace Go.Proofs.YtekmeaoblpfnpaaGreatDoor
open _root_.Go.Proofs.Tryz
open Go Go.Sx
def MH (m:Nat) (v:Value) (k:Nat):HL:=[(m,yX 180 [v,i64 k])]
abbrev a3V (I:Heap) (l:List Int) (v:Value):Prop:=zS (fun n:Int=>[i64 n]) I l v
def b5M (deep:Nat):Prop:=∀(m k:Nat) (v:Value) (l:List Int) (I:Heap),a3V I l v→l.length≤1000000000000→k≤l.length→deep≤100→
  yY Tryz.prog 100 [ptr m 0,i64 deep] I (MH m v k) (fun e I' H'=>(∃u,e= .returned u∧QV I' (Cq.made deep l k).1 u)∧H'=MH m v (Cq.made deep l k).2)
theorem c3E{l:List Int}{cs sp:List Value}{o k x}(h:cs.drop o=l.flatMap (fun n:Int=>[i64 n])++sp)(hx:l[k]?=some x):cs[o+k]?=some (i64 x):=by
  have h9:=DT (f:=fun n:Int=>[i64 n]) (n:=1) (fun _=>rfl) h hx 0 Nat.zero_lt_one;rw[Nat.mul_one,Nat.add_zero]at h9;exact h9
theorem JG(m k n:Nat) v l I (hl:a3V I l v)(hll:l.length≤1000000000000)(hk:k≤l.length)(hn:0<n)(hn2:n≤1000):
    yY Tryz.prog 101 [ptr m 0,i64 n] I (MH m v k) (fun e I' H'=>e= .returned (i64 (Cq.next l k n).1)∧H'=MH m v (Cq.next l k n).2):=by
 obtain⟨p,c,rfl,hlc,hl2⟩:=hl;refine zQ Tryz.func101 fun w0 hw0=>?_;refine yU 7 ?_;refine Cj.EX [0] [] 10 (by kernel_rfl) ?_;refine zK (fun hc2 hc2p=>?_) (fun hc2 hc2p=>?_)
 ·have hnx:Cq.next l k n=(0,k):=by simp[Cq.next,List.getElem?_eq_none (show l.length≤k by omega)]
  refine yU 7 ?_;refine Ej.keep (Keeps.k Keeps.n) ?_;refine zV ?_;rw[hnx];exact⟨rfl,rfl⟩
 have hlt:k<l.length:=by omega
 obtain⟨x,hx⟩:∃x,l[k]?=some x:=⟨_,BM hlt⟩;obtain⟨bl,off,cs',T,fr,sp,rfl,hbl,hat⟩:=hl2 (zU hlt);have hpk:=Cq.b4x x hn;have hnx:Cq.next l k n=(Cq.a6x x n,k+1):=by simp[Cq.next,hx]
 refine yU 15 ?_;refine Cj.EX [0] [] 18 (by kernel_rfl) ?_;refine yU 9 ?_;refine JA.fix AO (fun fx3=>?_);refine JA.tk 9 rfl fx3 (CY (off':=off+k) rfl rfl rfl c5x DX (by omega) (by omega) (by omega)) ?_;refine JA.tk 10 rfl fx3 (DU OG (yZ.OA hbl) (c3E hat hx)) ?_;refine JA.tk 11 rfl fx3 qq2 ?_;refine JA.tk 12 rfl fx3 (a6m rfl rfl rfl (by omega)) ?_;refine JA.tk 13 rfl fx3 qq2 ?_;refine JA.tk 14 rfl fx3 (NQ rfl rfl rfl (IU (by omega))) ?_;refine JA.tk 15 rfl fx3 qq2 ?_;refine JA.tk 16 rfl fx3 (a6m rfl rfl rfl (by omega)) ?_;refine JA.eqv 38 rfl (show _=i64 (Cq.a6x x n:Nat) from(by rw[hpk.1])) ?_;refine yU 4 ?_;refine Ej.keep (Keeps.k Keeps.n) ?_;refine zV ?_;rw[hnx];exact⟨rfl,rfl⟩
theorem EG{l:List (List UInt8)}{sp a}(h:a<l.length):(l.map str++sp)[a]?=some (str (l.getD a [])):=
  FT (by rw[List.getD_eq_getElem?_getD,BM h];rfl)
theorem a7B l:∀(deep k:Nat),k≤l.length→(Cq.made deep l k).2≤l.length
  |0,k,h=>Cq.c2K l 9 (Cq.c2K l 6 (Cq.c2K l 6 (Cq.c2K l 5 h)))
  | deep+1,k,h=>by
    simp only[Cq.made]
    split
    · exact Cq.c2K l 9 (Cq.c2K l 6 (Cq.c2K l 6 (Cq.c2K l 5 h)))
    exact a7B l deep _ (a7B l deep _ (Cq.c2K l 5 h))
theorem a4B deep (ih:∀d,deep=d+1→b5M d):b5M deep:=by
 intro m k v l I hl hll hk0 hd;have hx1:=Cq.next_lt l k (n:=5) (by omega);have hk1:(Cq.next l k 5).2≤l.length:=Cq.c2K l 5 hk0;have hk2:(Cq.next l (Cq.next l k 5).2 6).2≤l.length:=Cq.c2K l 6 hk1;have hk3:(Cq.next l (Cq.next l (Cq.next l k 5).2 6).2 6).2≤l.length:=Cq.c2K l 6 hk2;have hk4:(Cq.next l (Cq.next l (Cq.next l (Cq.next l k 5).2 6).2 6).2 9).2≤l.length:=Cq.c2K l 9 hk3;refine zQ Tryz.func100 fun w0 hw0=>?_;refine Cj.sr (J.op rfl (FV BN ?_));intro b1 hb1;refine J.QT (J.z qq2 ?_);refine J.pull (Pull.s Pull.z) ?_;refine J.op rfl (zM (H1:=[_]) rfl rfl rfl rfl rfl (JG m k 5 v l _ hl hll hk0 (by omega) (by omega)) ?_ (fun _ _ _ _ h=>by cases h.1) (fun _ _ h=>by cases h.1));intro v2 I3 H4 hle5 hp6;have hl:=hl.mono hle5;obtain⟨hv2,rfl⟩:=hp6;cases hv2;refine J.z EP ?_;refine J.nss ?_;refine Cj.join (ι:=Bool×Heap) (fun y=>(y.1=true→Cq.made deep l k=Cq.leaf l (Cq.next l k 5).2)∧(y.1=false→∃d,deep=d+1∧¬((Cq.next l k 5).1:Int)<2)∧a3V y.2 l v) (fun y=>[(0,ptr m 0),(1,i64 (deep:Int)),(4,ptr b1 0),(5,i64 ((Cq.next l k 5).1:Int)),(15,.bool y.1)]) (fun y=>y.2) (fun y=>[(m,yX 180 [v,i64 ((Cq.next l k 5).2:Int)]),(b1,yX 32 (zT Cq.zero none 0))]) ?_ (fun hcut=>?_)
 ·rintro⟨y,J9⟩ ⟨hy,hn,hl⟩;dsimp only at hy hn hl ⊢;refine Cj.cond rfl (fun hc7=>?_) (fun hc7=>?_)
  rotate_left
  ·obtain⟨d,rfl,hd2⟩:=hn hc7;have hmd:Cq.made (d+1) l k=(Cq.two (Cq.next l k 5).1 (Cq.made d l (Cq.next l k 5).2).1 (Cq.made d l (Cq.made d l (Cq.next l k 5).2).2).1,(Cq.made d l (Cq.made d l (Cq.next l k 5).2).2).2):=by simp only[Cq.made];rw[if_neg (by omega)]
   refine yU 7 ?_;refine J.ev 35 (i64 (d:Nat)) rfl (by simp) ?_;refine J.pull Pull.z ?_;refine AP (ih d rfl m (Cq.next l k 5).2 v l _ hl hll hk1 (by omega)) ?_;intro v109 I110 H111 hle112 hp113;have hl:=hl.mono hle112;obtain⟨⟨v109x,hv109,pa,ca,rfl,hpa⟩,rfl⟩:=hp113;cases hv109;refine yU 1 ?_;intro b114 hb114;refine yU 4 ?_;refine Cj.EX [0] [] 9 (by kernel_rfl) ?_;refine yU 5 ?_;refine JA.ev 41 (i64 (d:Nat)) rfl (by simp) ?_;refine JA.pull (Pull.s Pull.z) ?_;refine AP (ih d rfl m (Cq.made d l (Cq.next l k 5).2).2 v l _ hl hll (a7B l d _ hk1) (by omega)) ?_;intro v116 I117 H118 hle119 hp120;have hl:=hl.mono hle119;have hpa:=hpa.mono hle119;obtain⟨⟨v116x,hv116,pb,cb,rfl,hpb⟩,rfl⟩:=hp120;cases hv116;refine yU 2 ?_;intro b121 hb121;refine yU 1 ?_;refine JA.persist hb121 (fun I123 hle122 hb121i=>?_);have hl:=hl.mono hle122;have hpa:=hpa.mono hle122;have hpb:=hpb.mono hle122;refine JA.fix AO (fun fx124=>?_);refine JA.tk 7 rfl fx124 (zN (pl:= #[(0,1),(1,1),(2,1),(3,1),(4,1)]) rfl rfl BN rfl tU32 (fun w=>by simp[DX,DZ,AV]) (FB.part rfl rfl rfl (AL.c AL.z) (FB.part rfl rfl rfl (AL.s (AL.s (AL.s (AL.s (AL.c AL.z))))) FB.none))) ?_;refine zO 8 rfl (BZ 2 yV (AL.c (AL.c (AL.c (AL.c (AL.c AL.z))))) (AU.s (AU.s AU.z)) ?_);refine⟨⟨(Le.trans (Le.trans (Le.refl _) hle119) hle122),(HSub.c 1 rfl HSub.n),CSub.n⟩,?_⟩;refine EW ?_;refine Ej.seq (Cj.ret ?_);refine Ej.a1J (Keeps.k (Keeps.d (Keeps.d Keeps.n))) rfl rfl rfl (yZ.at 2 rfl) zL yV rfl ?_;rw[hmd];exact⟨⟨_,rfl,some ⟨b121,0,none⟩,2,rfl,PS.two hpa hpb hb121i⟩,rfl⟩
  have hmd:=(hy hc7);have hx2:=Cq.next_lt l (Cq.next l k 5).2 (n:=6) (by omega);have hx3:=Cq.next_lt l (Cq.next l (Cq.next l k 5).2 6).2 (n:=6) (by omega);have hx4:=Cq.next_lt l (Cq.next l (Cq.next l (Cq.next l k 5).2 6).2 6).2 (n:=9) (by omega);refine Cj.sr (J.op rfl (ER CG AV NP (EH.one rfl (EH.one rfl (EH.one rfl (EH.one rfl (EH.one rfl (EH.one rfl (EH.one rfl (EH.one rfl (EH.one rfl EH.none))))))))) ?_));intro b8 hb8;refine J.z EP ?_;refine J.nss ?_;refine Cj.EX [0] [] 17 (by kernel_rfl) ?_;refine JA.fix AO (fun fx9=>?_);refine JA.tk 1 rfl fx9 qq2 ?_;refine JA.tk 6 rfl fx9 qq2 ?_;refine JA.tk 10 rfl fx9 qq2 ?_;refine JA.tk 11 rfl fx9 qq2 ?_;refine zO 0 rfl (zM (H1:=[]) rfl rfl rfl rfl rfl (a4n _) ?_ (fun _ _ _ _ h=>by obtain⟨⟨_,h,_⟩,_⟩:=h;cases h) (fun _ _ h=>by obtain⟨⟨_,h,_⟩,_⟩:=h;cases h));intro v10 I11 H12 hle13 hp14;have hl:=hl.mono hle13;obtain⟨⟨v10x,hv10,bi,cbi,spbi,rfl,hbi⟩,rfl⟩:=hp14;cases hv10;refine⟨⟨(Le.trans (Le.refl _) hle13),(HSub.c 0 rfl HSub.n),CSub.n⟩,?_⟩;refine JA.pull (Pull.s Pull.z) ?_;refine zO 2 rfl (zM (H1:=[_]) rfl rfl rfl rfl rfl (JG m (Cq.next l k 5).2 6 v l _ hl hll hk1 (by omega) (by omega)) ?_ (fun _ _ _ _ h=>by cases h.1) (fun _ _ h=>by cases h.1));intro v15 I16 H17 hle18 hp19;have hl:=hl.mono hle18;have hbi:=hle18 _ _ hbi;obtain⟨hv15,rfl⟩:=hp19;cases hv15;refine⟨⟨(Le.trans (Le.trans (Le.refl _) hle13) hle18),(HSub.c 1 rfl HSub.n),CSub.n⟩,?_⟩;refine JA.fix AO (fun fx20=>?_);refine JA.tk 3 rfl fx20 (CY (off':=(Cq.next l (Cq.next l k 5).2 6).1) rfl rfl rfl CG AV (by omega) (by have:Cq.indexes.length=6:=rfl;omega) (by simp)) ?_;refine JA.all [4,5] (by kernel_rfl) (by simp) ?_;intro i hi;simp only[List.mem_cons,List.not_mem_nil,or_false]at hi;rcases hi with rfl|rfl
  ·refine⟨_,rfl,rfl,?_⟩;refine AY (AX rfl rfl CU (yZ.LK hbi) (EG (by exact hx2))) rfl rfl ?_;refine⟨⟨(Le.trans (Le.trans (Le.refl _) hle13) hle18),(HSub.c 1 rfl HSub.n),CSub.n⟩,?_⟩;refine zO 5 rfl (zM (H1:=[]) rfl rfl rfl rfl rfl (XI _) ?_ (fun _ _ _ _ h=>by obtain⟨⟨_,h,_⟩,_⟩:=h;cases h) (fun _ _ h=>by obtain⟨⟨_,h,_⟩,_⟩:=h;cases h));intro v21 I22 H23 hle24 hp25;have hl:=hl.mono hle24;have hbi:=hle24 _ _ hbi;obtain⟨⟨v21x,hv21,br,cbr,spbr,rfl,hbr⟩,rfl⟩:=hp25;cases hv21;refine⟨⟨(Le.trans (Le.trans (Le.trans (Le.refl _) hle13) hle18) hle24),(HSub.c 1 rfl HSub.n),CSub.n⟩,?_⟩;refine JA.pull Pull.z ?_;refine zO 7 rfl (zM (H1:=[_]) rfl rfl rfl rfl rfl (JG m (Cq.next l (Cq.next l k 5).2 6).2 6 v l _ hl hll hk2 (by omega) (by omega)) ?_ (fun _ _ _ _ h=>by cases h.1) (fun _ _ h=>by cases h.1));intro v26 I27 H28 hle29 hp30;have hl:=hl.mono hle29;have hbi:=hle29 _ _ hbi;have hbr:=hle29 _ _ hbr;obtain⟨hv26,rfl⟩:=hp30;cases hv26;refine⟨⟨(Le.trans (Le.trans (Le.trans (Le.trans (Le.refl _) hle13) hle18) hle24) hle29),(HSub.c 1 rfl HSub.n),CSub.n⟩,?_⟩;refine JA.fix AO (fun fx31=>?_);refine JA.tk 8 rfl fx31 (CY (off':=(Cq.next l (Cq.next l (Cq.next l k 5).2 6).2 6).1) rfl rfl rfl CG AV (by omega) (by have:Cq.relations.length=6:=rfl;omega) (by simp)) ?_;refine JA.all [9,12] (by kernel_rfl) (by simp) ?_;intro i hi;simp only[List.mem_cons,List.not_mem_nil,or_false]at hi;rcases hi with rfl|rfl
   ·refine⟨_,rfl,rfl,?_⟩;refine AY (AX rfl rfl CU (yZ.LK hbr) (EG (by exact hx3))) rfl rfl ?_;refine⟨⟨(Le.trans (Le.trans (Le.trans (Le.trans (Le.refl _) hle13) hle18) hle24) hle29),(HSub.c 1 rfl HSub.n),CSub.n⟩,?_⟩;refine JA.pull Pull.z ?_;refine zO 12 rfl (zM (H1:=[_]) rfl rfl rfl rfl rfl (JG m (Cq.next l (Cq.next l (Cq.next l k 5).2 6).2 6).2 9 v l _ hl hll hk3 (by omega) (by omega)) ?_ (fun _ _ _ _ h=>by cases h.1) (fun _ _ h=>by cases h.1));intro v32 I33 H34 hle35 hp36;have hl:=hl.mono hle35;have hbi:=hle35 _ _ hbi;have hbr:=hle35 _ _ hbr;obtain⟨hv32,rfl⟩:=hp36;cases hv32;refine⟨⟨(Le.trans (Le.trans (Le.trans (Le.trans (Le.trans (Le.refl _) hle13) hle18) hle24) hle29) hle35),(HSub.c 1 rfl HSub.n),CSub.n⟩,?_⟩;refine JA.fix AO (fun fx37=>?_);refine JA.tk 13 rfl fx37 (FX (off':=(Cq.next l (Cq.next l (Cq.next l (Cq.next l k 5).2 6).2 6).2 9).1) CG AV) ?_;refine JA.tk 14 rfl fx37 (AX rfl rfl CU (yZ.atC 0 rfl) (EG (l:=Cq.texts) (sp:=[]) (by exact hx4))) ?_;refine JA.tk 15 rfl fx37 (zN (pl:= #[(0,1),(1,1),(2,1),(3,1),(4,1)]) rfl rfl BN rfl tU32 (fun w=>by simp[DX,DZ,AV]) (FB.part rfl rfl rfl (AL.c AL.z) (FB.part rfl rfl rfl (AL.s (AL.c AL.z)) (FB.part rfl rfl rfl (AL.s (AL.s (AL.c AL.z))) (FB.part rfl rfl rfl (AL.s (AL.s (AL.s (AL.c AL.z)))) FB.none))))) ?_;refine zO 16 rfl (BZ 2 yV (AL.c (AL.c (AL.c (AL.c (AL.c AL.z))))) (AU.s (AU.s AU.z)) ?_);refine⟨⟨(Le.trans (Le.trans (Le.trans (Le.trans (Le.trans (Le.refl _) hle13) hle18) hle24) hle29) hle35),(HSub.c 1 rfl HSub.n),CSub.n⟩,?_⟩;refine EW ?_;refine Ej.seq (Cj.rs ?_);refine Ej.a1J (Keeps.k (Keeps.d (Keeps.d Keeps.n))) rfl rfl rfl (yZ.at 2 rfl) zL yV rfl ?_;rw[hmd];exact⟨⟨_,rfl,none,0,rfl,.inl rfl⟩,rfl⟩
   refine⟨_,rfl,rfl,?_⟩;refine DJ.pull Pull.z ?_;refine zM (H1:=[_]) rfl rfl rfl rfl rfl (JG m (Cq.next l (Cq.next l (Cq.next l k 5).2 6).2 6).2 9 v l _ hl hll hk3 (by omega) (by omega)) ?_ (fun _ _ _ _ h=>by cases h.1) (fun _ _ h=>by cases h.1);intro v38 I39 H40 hle41 hp42;have hl:=hl.mono hle41;have hbi:=hle41 _ _ hbi;have hbr:=hle41 _ _ hbr;obtain⟨hv38,rfl⟩:=hp42;cases hv38;refine⟨⟨(Le.trans (Le.trans (Le.trans (Le.trans (Le.trans (Le.refl _) hle13) hle18) hle24) hle29) hle41),(HSub.c 1 rfl HSub.n),CSub.n⟩,?_⟩;refine JA.fix AO (fun fx43=>?_);refine JA.tk 13 rfl fx43 (FX (off':=(Cq.next l (Cq.next l (Cq.next l (Cq.next l k 5).2 6).2 6).2 9).1) CG AV) ?_;refine JA.tk 14 rfl fx43 (AX rfl rfl CU (yZ.atC 0 rfl) (EG (l:=Cq.texts) (sp:=[]) (by exact hx4))) ?_;refine zO 9 rfl (AY (AX rfl rfl CU (yZ.LK hbr) (EG (by exact hx3))) rfl rfl ?_);refine⟨⟨(Le.trans (Le.trans (Le.trans (Le.trans (Le.trans (Le.refl _) hle13) hle18) hle24) hle29) hle41),(HSub.c 1 rfl HSub.n),CSub.n⟩,?_⟩;refine JA.fix AO (fun fx44=>?_);refine JA.tk 15 rfl fx44 (zN (pl:= #[(0,1),(1,1),(2,1),(3,1),(4,1)]) rfl rfl BN rfl tU32 (fun w=>by simp[DX,DZ,AV]) (FB.part rfl rfl rfl (AL.c AL.z) (FB.part rfl rfl rfl (AL.s (AL.c AL.z)) (FB.part rfl rfl rfl (AL.s (AL.s (AL.c AL.z))) (FB.part rfl rfl rfl (AL.s (AL.s (AL.s (AL.c AL.z)))) FB.none))))) ?_;refine zO 16 rfl (BZ 2 yV (AL.c (AL.c (AL.c (AL.c (AL.c AL.z))))) (AU.s (AU.s AU.z)) ?_);refine⟨⟨(Le.trans (Le.trans (Le.trans (Le.trans (Le.trans (Le.refl _) hle13) hle18) hle24) hle29) hle41),(HSub.c 1 rfl HSub.n),CSub.n⟩,?_⟩;refine EW ?_;refine Ej.seq (Cj.rs ?_);refine Ej.a1J (Keeps.k (Keeps.d (Keeps.d Keeps.n))) rfl rfl rfl (yZ.at 2 rfl) zL yV rfl ?_;rw[hmd];exact⟨⟨_,rfl,none,0,rfl,.inl rfl⟩,rfl⟩
  refine⟨_,rfl,rfl,?_⟩;refine zM (H1:=[]) rfl rfl rfl rfl rfl (XI _) ?_ (fun _ _ _ _ h=>by obtain⟨⟨_,h,_⟩,_⟩:=h;cases h) (fun _ _ h=>by obtain⟨⟨_,h,_⟩,_⟩:=h;cases h);intro v45 I46 H47 hle48 hp49;have hl:=hl.mono hle48;have hbi:=hle48 _ _ hbi;obtain⟨⟨v45x,hv45,br,cbr,spbr,rfl,hbr⟩,rfl⟩:=hp49;cases hv45;refine⟨⟨(Le.trans (Le.trans (Le.trans (Le.refl _) hle13) hle18) hle48),(HSub.c 1 rfl HSub.n),CSub.n⟩,?_⟩;refine JA.all [4,7] (by kernel_rfl) (by simp) ?_;intro i hi;simp only[List.mem_cons,List.not_mem_nil,or_false]at hi;rcases hi with rfl|rfl
  ·refine⟨_,rfl,rfl,?_⟩;refine AY (AX rfl rfl CU (yZ.LK hbi) (EG (by exact hx2))) rfl rfl ?_;refine⟨⟨(Le.trans (Le.trans (Le.trans (Le.refl _) hle13) hle18) hle48),(HSub.c 1 rfl HSub.n),CSub.n⟩,?_⟩;refine JA.pull Pull.z ?_;refine zO 7 rfl (zM (H1:=[_]) rfl rfl rfl rfl rfl (JG m (Cq.next l (Cq.next l k 5).2 6).2 6 v l _ hl hll hk2 (by omega) (by omega)) ?_ (fun _ _ _ _ h=>by cases h.1) (fun _ _ h=>by cases h.1));intro v50 I51 H52 hle53 hp54;have hl:=hl.mono hle53;have hbi:=hle53 _ _ hbi;have hbr:=hle53 _ _ hbr;obtain⟨hv50,rfl⟩:=hp54;cases hv50;refine⟨⟨(Le.trans (Le.trans (Le.trans (Le.trans (Le.refl _) hle13) hle18) hle48) hle53),(HSub.c 1 rfl HSub.n),CSub.n⟩,?_⟩;refine JA.fix AO (fun fx55=>?_);refine JA.tk 8 rfl fx55 (CY (off':=(Cq.next l (Cq.next l (Cq.next l k 5).2 6).2 6).1) rfl rfl rfl CG AV (by omega) (by have:Cq.relations.length=6:=rfl;omega) (by simp)) ?_;refine JA.all [9,12] (by kernel_rfl) (by simp) ?_;intro i hi;simp only[List.mem_cons,List.not_mem_nil,or_false]at hi;rcases hi with rfl|rfl
   ·refine⟨_,rfl,rfl,?_⟩;refine AY (AX rfl rfl CU (yZ.LK hbr) (EG (by exact hx3))) rfl rfl ?_;refine⟨⟨(Le.trans (Le.trans (Le.trans (Le.trans (Le.refl _) hle13) hle18) hle48) hle53),(HSub.c 1 rfl HSub.n),CSub.n⟩,?_⟩;refine JA.pull Pull.z ?_;refine zO 12 rfl (zM (H1:=[_]) rfl rfl rfl rfl rfl (JG m (Cq.next l (Cq.next l (Cq.next l k 5).2 6).2 6).2 9 v l _ hl hll hk3 (by omega) (by omega)) ?_ (fun _ _ _ _ h=>by cases h.1) (fun _ _ h=>by cases h.1));intro v56 I57 H58 hle59 hp60;have hl:=hl.mono hle59;have hbi:=hle59 _ _ hbi;have hbr:=hle59 _ _ hbr;obtain⟨hv56,rfl⟩:=hp60;cases hv56;refine⟨⟨(Le.trans (Le.trans (Le.trans (Le.trans (Le.trans (Le.refl _) hle13) hle18) hle48) hle53) hle59),(HSub.c 1 rfl HSub.n),CSub.n⟩,?_⟩;refine JA.fix AO (fun fx61=>?_);refine JA.tk 13 rfl fx61 (FX (off':=(Cq.next l (Cq.next l (Cq.next l (Cq.next l k 5).2 6).2 6).2 9).1) CG AV) ?_;refine JA.tk 14 rfl fx61 (AX rfl rfl CU (yZ.atC 0 rfl) (EG (l:=Cq.texts) (sp:=[]) (by exact hx4))) ?_;refine JA.tk 15 rfl fx61 (zN (pl:= #[(0,1),(1,1),(2,1),(3,1),(4,1)]) rfl rfl BN rfl tU32 (fun w=>by simp[DX,DZ,AV]) (FB.part rfl rfl rfl (AL.c AL.z) (FB.part rfl rfl rfl (AL.s (AL.c AL.z)) (FB.part rfl rfl rfl (AL.s (AL.s (AL.c AL.z))) (FB.part rfl rfl rfl (AL.s (AL.s (AL.s (AL.c AL.z)))) FB.none))))) ?_;refine zO 16 rfl (BZ 2 yV (AL.c (AL.c (AL.c (AL.c (AL.c AL.z))))) (AU.s (AU.s AU.z)) ?_);refine⟨⟨(Le.trans (Le.trans (Le.trans (Le.trans (Le.trans (Le.refl _) hle13) hle18) hle48) hle53) hle59),(HSub.c 1 rfl HSub.n),CSub.n⟩,?_⟩;refine EW ?_;refine Ej.seq (Cj.rs ?_);refine Ej.a1J (Keeps.k (Keeps.d (Keeps.d Keeps.n))) rfl rfl rfl (yZ.at 2 rfl) zL yV rfl ?_;rw[hmd];exact⟨⟨_,rfl,none,0,rfl,.inl rfl⟩,rfl⟩
   refine⟨_,rfl,rfl,?_⟩;refine DJ.pull Pull.z ?_;refine zM (H1:=[_]) rfl rfl rfl rfl rfl (JG m (Cq.next l (Cq.next l (Cq.next l k 5).2 6).2 6).2 9 v l _ hl hll hk3 (by omega) (by omega)) ?_ (fun _ _ _ _ h=>by cases h.1) (fun _ _ h=>by cases h.1);intro v62 I63 H64 hle65 hp66;have hl:=hl.mono hle65;have hbi:=hle65 _ _ hbi;have hbr:=hle65 _ _ hbr;obtain⟨hv62,rfl⟩:=hp66;cases hv62;refine⟨⟨(Le.trans (Le.trans (Le.trans (Le.trans (Le.trans (Le.refl _) hle13) hle18) hle48) hle53) hle65),(HSub.c 1 rfl HSub.n),CSub.n⟩,?_⟩;refine JA.fix AO (fun fx67=>?_);refine JA.tk 13 rfl fx67 (FX (off':=(Cq.next l (Cq.next l (Cq.next l (Cq.next l k 5).2 6).2 6).2 9).1) CG AV) ?_;refine JA.tk 14 rfl fx67 (AX rfl rfl CU (yZ.atC 0 rfl) (EG (l:=Cq.texts) (sp:=[]) (by exact hx4))) ?_;refine zO 9 rfl (AY (AX rfl rfl CU (yZ.LK hbr) (EG (by exact hx3))) rfl rfl ?_);refine⟨⟨(Le.trans (Le.trans (Le.trans (Le.trans (Le.trans (Le.refl _) hle13) hle18) hle48) hle53) hle65),(HSub.c 1 rfl HSub.n),CSub.n⟩,?_⟩;refine JA.fix AO (fun fx68=>?_);refine JA.tk 15 rfl fx68 (zN (pl:= #[(0,1),(1,1),(2,1),(3,1),(4,1)]) rfl rfl BN rfl tU32 (fun w=>by simp[DX,DZ,AV]) (FB.part rfl rfl rfl (AL.c AL.z) (FB.part rfl rfl rfl (AL.s (AL.c AL.z)) (FB.part rfl rfl rfl (AL.s (AL.s (AL.c AL.z))) (FB.part rfl rfl rfl (AL.s (AL.s (AL.s (AL.c AL.z)))) FB.none))))) ?_;refine zO 16 rfl (BZ 2 yV (AL.c (AL.c (AL.c (AL.c (AL.c AL.z))))) (AU.s (AU.s AU.z)) ?_);refine⟨⟨(Le.trans (Le.trans (Le.trans (Le.trans (Le.trans (Le.refl _) hle13) hle18) hle48) hle53) hle65),(HSub.c 1 rfl HSub.n),CSub.n⟩,?_⟩;refine EW ?_;refine Ej.seq (Cj.rs ?_);refine Ej.a1J (Keeps.k (Keeps.d (Keeps.d Keeps.n))) rfl rfl rfl (yZ.at 2 rfl) zL yV rfl ?_;rw[hmd];exact⟨⟨_,rfl,none,0,rfl,.inl rfl⟩,rfl⟩
  refine⟨_,rfl,rfl,?_⟩;refine DJ.pull Pull.z ?_;refine zM (H1:=[_]) rfl rfl rfl rfl rfl (JG m (Cq.next l (Cq.next l k 5).2 6).2 6 v l _ hl hll hk2 (by omega) (by omega)) ?_ (fun _ _ _ _ h=>by cases h.1) (fun _ _ h=>by cases h.1);intro v69 I70 H71 hle72 hp73;have hl:=hl.mono hle72;have hbi:=hle72 _ _ hbi;have hbr:=hle72 _ _ hbr;obtain⟨hv69,rfl⟩:=hp73;cases hv69;refine⟨⟨(Le.trans (Le.trans (Le.trans (Le.trans (Le.refl _) hle13) hle18) hle48) hle72),(HSub.c 1 rfl HSub.n),CSub.n⟩,?_⟩;refine JA.fix AO (fun fx74=>?_);refine JA.tk 8 rfl fx74 (CY (off':=(Cq.next l (Cq.next l (Cq.next l k 5).2 6).2 6).1) rfl rfl rfl CG AV (by omega) (by have:Cq.relations.length=6:=rfl;omega) (by simp)) ?_;refine JA.all [4,9,12] (by kernel_rfl) (by simp) ?_;intro i hi;simp only[List.mem_cons,List.not_mem_nil,or_false]at hi;rcases hi with rfl|rfl|rfl
  ·refine⟨_,rfl,rfl,?_⟩;refine AY (AX rfl rfl CU (yZ.LK hbi) (EG (by exact hx2))) rfl rfl ?_;refine⟨⟨(Le.trans (Le.trans (Le.trans (Le.trans (Le.refl _) hle13) hle18) hle48) hle72),(HSub.c 1 rfl HSub.n),CSub.n⟩,?_⟩;refine JA.all [9,12] (by kernel_rfl) (by simp) ?_;intro i hi;simp only[List.mem_cons,List.not_mem_nil,or_false]at hi;rcases hi with rfl|rfl
   ·refine⟨_,rfl,rfl,?_⟩;refine AY (AX rfl rfl CU (yZ.LK hbr) (EG (by exact hx3))) rfl rfl ?_;refine⟨⟨(Le.trans (Le.trans (Le.trans (Le.trans (Le.refl _) hle13) hle18) hle48) hle72),(HSub.c 1 rfl HSub.n),CSub.n⟩,?_⟩;refine JA.pull Pull.z ?_;refine zO 12 rfl (zM (H1:=[_]) rfl rfl rfl rfl rfl (JG m (Cq.next l (Cq.next l (Cq.next l k 5).2 6).2 6).2 9 v l _ hl hll hk3 (by omega) (by omega)) ?_ (fun _ _ _ _ h=>by cases h.1) (fun _ _ h=>by cases h.1));intro v75 I76 H77 hle78 hp79;have hl:=hl.mono hle78;have hbi:=hle78 _ _ hbi;have hbr:=hle78 _ _ hbr;obtain⟨hv75,rfl⟩:=hp79;cases hv75;refine⟨⟨(Le.trans (Le.trans (Le.trans (Le.trans (Le.trans (Le.refl _) hle13) hle18) hle48) hle72) hle78),(HSub.c 1 rfl HSub.n),CSub.n⟩,?_⟩;refine JA.fix AO (fun fx80=>?_);refine JA.tk 13 rfl fx80 (FX (off':=(Cq.next l (Cq.next l (Cq.next l (Cq.next l k 5).2 6).2 6).2 9).1) CG AV) ?_;refine JA.tk 14 rfl fx80 (AX rfl rfl CU (yZ.atC 0 rfl) (EG (l:=Cq.texts) (sp:=[]) (by exact hx4))) ?_;refine JA.tk 15 rfl fx80 (zN (pl:= #[(0,1),(1,1),(2,1),(3,1),(4,1)]) rfl rfl BN rfl tU32 (fun w=>by simp[DX,DZ,AV]) (FB.part rfl rfl rfl (AL.c AL.z) (FB.part rfl rfl rfl (AL.s (AL.c AL.z)) (FB.part rfl rfl rfl (AL.s (AL.s (AL.c AL.z))) (FB.part rfl rfl rfl (AL.s (AL.s (AL.s (AL.c AL.z)))) FB.none))))) ?_;refine zO 16 rfl (BZ 2 yV (AL.c (AL.c (AL.c (AL.c (AL.c AL.z))))) (AU.s (AU.s AU.z)) ?_);refine⟨⟨(Le.trans (Le.trans (Le.trans (Le.trans (Le.trans (Le.refl _) hle13) hle18) hle48) hle72) hle78),(HSub.c 1 rfl HSub.n),CSub.n⟩,?_⟩;refine EW ?_;refine Ej.seq (Cj.rs ?_);refine Ej.a1J (Keeps.k (Keeps.d (Keeps.d Keeps.n))) rfl rfl rfl (yZ.at 2 rfl) zL yV rfl ?_;rw[hmd];exact⟨⟨_,rfl,none,0,rfl,.inl rfl⟩,rfl⟩
   refine⟨_,rfl,rfl,?_⟩;refine DJ.pull Pull.z ?_;refine zM (H1:=[_]) rfl rfl rfl rfl rfl (JG m (Cq.next l (Cq.next l (Cq.next l k 5).2 6).2 6).2 9 v l _ hl hll hk3 (by omega) (by omega)) ?_ (fun _ _ _ _ h=>by cases h.1) (fun _ _ h=>by cases h.1);intro v81 I82 H83 hle84 hp85;have hl:=hl.mono hle84;have hbi:=hle84 _ _ hbi;have hbr:=hle84 _ _ hbr;obtain⟨hv81,rfl⟩:=hp85;cases hv81;refine⟨⟨(Le.trans (Le.trans (Le.trans (Le.trans (Le.trans (Le.refl _) hle13) hle18) hle48) hle72) hle84),(HSub.c 1 rfl HSub.n),CSub.n⟩,?_⟩;refine JA.fix AO (fun fx86=>?_);refine JA.tk 13 rfl fx86 (FX (off':=(Cq.next l (Cq.next l (Cq.next l (Cq.next l k 5).2 6).2 6).2 9).1) CG AV) ?_;refine JA.tk 14 rfl fx86 (AX rfl rfl CU (yZ.atC 0 rfl) (EG (l:=Cq.texts) (sp:=[]) (by exact hx4))) ?_;refine zO 9 rfl (AY (AX rfl rfl CU (yZ.LK hbr) (EG (by exact hx3))) rfl rfl ?_);refine⟨⟨(Le.trans (Le.trans (Le.trans (Le.trans (Le.trans (Le.refl _) hle13) hle18) hle48) hle72) hle84),(HSub.c 1 rfl HSub.n),CSub.n⟩,?_⟩;refine JA.fix AO (fun fx87=>?_);refine JA.tk 15 rfl fx87 (zN (pl:= #[(0,1),(1,1),(2,1),(3,1),(4,1)]) rfl rfl BN rfl tU32 (fun w=>by simp[DX,DZ,AV]) (FB.part rfl rfl rfl (AL.c AL.z) (FB.part rfl rfl rfl (AL.s (AL.c AL.z)) (FB.part rfl rfl rfl (AL.s (AL.s (AL.c AL.z))) (FB.part rfl rfl rfl (AL.s (AL.s (AL.s (AL.c AL.z)))) FB.none))))) ?_;refine zO 16 rfl (BZ 2 yV (AL.c (AL.c (AL.c (AL.c (AL.c AL.z))))) (AU.s (AU.s AU.z)) ?_);refine⟨⟨(Le.trans (Le.trans (Le.trans (Le.trans (Le.trans (Le.refl _) hle13) hle18) hle48) hle72) hle84),(HSub.c 1 rfl HSub.n),CSub.n⟩,?_⟩;refine EW ?_;refine Ej.seq (Cj.rs ?_);refine Ej.a1J (Keeps.k (Keeps.d (Keeps.d Keeps.n))) rfl rfl rfl (yZ.at 2 rfl) zL yV rfl ?_;rw[hmd];exact⟨⟨_,rfl,none,0,rfl,.inl rfl⟩,rfl⟩
  ·refine⟨_,rfl,rfl,?_⟩;refine AY (AX rfl rfl CU (yZ.LK hbr) (EG (by exact hx3))) rfl rfl ?_;refine⟨⟨(Le.trans (Le.trans (Le.trans (Le.trans (Le.refl _) hle13) hle18) hle48) hle72),(HSub.c 1 rfl HSub.n),CSub.n⟩,?_⟩;refine JA.all [4,12] (by kernel_rfl) (by simp) ?_;intro i hi;simp only[List.mem_cons,List.not_mem_nil,or_false]at hi;rcases hi with rfl|rfl
   ·refine⟨_,rfl,rfl,?_⟩;refine AY (AX rfl rfl CU (yZ.LK hbi) (EG (by exact hx2))) rfl rfl ?_;refine⟨⟨(Le.trans (Le.trans (Le.trans (Le.trans (Le.refl _) hle13) hle18) hle48) hle72),(HSub.c 1 rfl HSub.n),CSub.n⟩,?_⟩;refine JA.pull Pull.z ?_;refine zO 12 rfl (zM (H1:=[_]) rfl rfl rfl rfl rfl (JG m (Cq.next l (Cq.next l (Cq.next l k 5).2 6).2 6).2 9 v l _ hl hll hk3 (by omega) (by omega)) ?_ (fun _ _ _ _ h=>by cases h.1) (fun _ _ h=>by cases h.1));intro v88 I89 H90 hle91 hp92;have hl:=hl.mono hle91;have hbi:=hle91 _ _ hbi;have hbr:=hle91 _ _ hbr;obtain⟨hv88,rfl⟩:=hp92;cases hv88;refine⟨⟨(Le.trans (Le.trans (Le.trans (Le.trans (Le.trans (Le.refl _) hle13) hle18) hle48) hle72) hle91),(HSub.c 1 rfl HSub.n),CSub.n⟩,?_⟩;refine JA.fix AO (fun fx93=>?_);refine JA.tk 13 rfl fx93 (FX (off':=(Cq.next l (Cq.next l (Cq.next l (Cq.next l k 5).2 6).2 6).2 9).1) CG AV) ?_;refine JA.tk 14 rfl fx93 (AX rfl rfl CU (yZ.atC 0 rfl) (EG (l:=Cq.texts) (sp:=[]) (by exact hx4))) ?_;refine JA.tk 15 rfl fx93 (zN (pl:= #[(0,1),(1,1),(2,1),(3,1),(4,1)]) rfl rfl BN rfl tU32 (fun w=>by simp[DX,DZ,AV]) (FB.part rfl rfl rfl (AL.c AL.z) (FB.part rfl rfl rfl (AL.s (AL.c AL.z)) (FB.part rfl rfl rfl (AL.s (AL.s (AL.c AL.z))) (FB.part rfl rfl rfl (AL.s (AL.s (AL.s (AL.c AL.z)))) FB.none))))) ?_;refine zO 16 rfl (BZ 2 yV (AL.c (AL.c (AL.c (AL.c (AL.c AL.z))))) (AU.s (AU.s AU.z)) ?_);refine⟨⟨(Le.trans (Le.trans (Le.trans (Le.trans (Le.trans (Le.refl _) hle13) hle18) hle48) hle72) hle91),(HSub.c 1 rfl HSub.n),CSub.n⟩,?_⟩;refine EW ?_;refine Ej.seq (Cj.rs ?_);refine Ej.a1J (Keeps.k (Keeps.d (Keeps.d Keeps.n))) rfl rfl rfl (yZ.at 2 rfl) zL yV rfl ?_;rw[hmd];exact⟨⟨_,rfl,none,0,rfl,.inl rfl⟩,rfl⟩
   refine⟨_,rfl,rfl,?_⟩;refine DJ.pull Pull.z ?_;refine zM (H1:=[_]) rfl rfl rfl rfl rfl (JG m (Cq.next l (Cq.next l (Cq.next l k 5).2 6).2 6).2 9 v l _ hl hll hk3 (by omega) (by omega)) ?_ (fun _ _ _ _ h=>by cases h.1) (fun _ _ h=>by cases h.1);intro v94 I95 H96 hle97 hp98;have hl:=hl.mono hle97;have hbi:=hle97 _ _ hbi;have hbr:=hle97 _ _ hbr;obtain⟨hv94,rfl⟩:=hp98;cases hv94;refine⟨⟨(Le.trans (Le.trans (Le.trans (Le.trans (Le.trans (Le.refl _) hle13) hle18) hle48) hle72) hle97),(HSub.c 1 rfl HSub.n),CSub.n⟩,?_⟩;refine JA.fix AO (fun fx99=>?_);refine JA.tk 13 rfl fx99 (FX (off':=(Cq.next l (Cq.next l (Cq.next l (Cq.next l k 5).2 6).2 6).2 9).1) CG AV) ?_;refine JA.tk 14 rfl fx99 (AX rfl rfl CU (yZ.atC 0 rfl) (EG (l:=Cq.texts) (sp:=[]) (by exact hx4))) ?_;refine zO 4 rfl (AY (AX rfl rfl CU (yZ.LK hbi) (EG (by exact hx2))) rfl rfl ?_);refine⟨⟨(Le.trans (Le.trans (Le.trans (Le.trans (Le.trans (Le.refl _) hle13) hle18) hle48) hle72) hle97),(HSub.c 1 rfl HSub.n),CSub.n⟩,?_⟩;refine JA.fix AO (fun fx100=>?_);refine JA.tk 15 rfl fx100 (zN (pl:= #[(0,1),(1,1),(2,1),(3,1),(4,1)]) rfl rfl BN rfl tU32 (fun w=>by simp[DX,DZ,AV]) (FB.part rfl rfl rfl (AL.c AL.z) (FB.part rfl rfl rfl (AL.s (AL.c AL.z)) (FB.part rfl rfl rfl (AL.s (AL.s (AL.c AL.z))) (FB.part rfl rfl rfl (AL.s (AL.s (AL.s (AL.c AL.z)))) FB.none))))) ?_;refine zO 16 rfl (BZ 2 yV (AL.c (AL.c (AL.c (AL.c (AL.c AL.z))))) (AU.s (AU.s AU.z)) ?_);refine⟨⟨(Le.trans (Le.trans (Le.trans (Le.trans (Le.trans (Le.refl _) hle13) hle18) hle48) hle72) hle97),(HSub.c 1 rfl HSub.n),CSub.n⟩,?_⟩;refine EW ?_;refine Ej.seq (Cj.rs ?_);refine Ej.a1J (Keeps.k (Keeps.d (Keeps.d Keeps.n))) rfl rfl rfl (yZ.at 2 rfl) zL yV rfl ?_;rw[hmd];exact⟨⟨_,rfl,none,0,rfl,.inl rfl⟩,rfl⟩
  refine⟨_,rfl,rfl,?_⟩;refine DJ.pull Pull.z ?_;refine zM (H1:=[_]) rfl rfl rfl rfl rfl (JG m (Cq.next l (Cq.next l (Cq.next l k 5).2 6).2 6).2 9 v l _ hl hll hk3 (by omega) (by omega)) ?_ (fun _ _ _ _ h=>by cases h.1) (fun _ _ h=>by cases h.1);intro v101 I102 H103 hle104 hp105;have hl:=hl.mono hle104;have hbi:=hle104 _ _ hbi;have hbr:=hle104 _ _ hbr;obtain⟨hv101,rfl⟩:=hp105;cases hv101;refine⟨⟨(Le.trans (Le.trans (Le.trans (Le.trans (Le.trans (Le.refl _) hle13) hle18) hle48) hle72) hle104),(HSub.c 1 rfl HSub.n),CSub.n⟩,?_⟩;refine JA.fix AO (fun fx106=>?_);refine JA.tk 13 rfl fx106 (FX (off':=(Cq.next l (Cq.next l (Cq.next l (Cq.next l k 5).2 6).2 6).2 9).1) CG AV) ?_;refine JA.tk 14 rfl fx106 (AX rfl rfl CU (yZ.atC 0 rfl) (EG (l:=Cq.texts) (sp:=[]) (by exact hx4))) ?_;refine JA.all [4,9] (by kernel_rfl) (by simp) ?_;intro i hi;simp only[List.mem_cons,List.not_mem_nil,or_false]at hi;rcases hi with rfl|rfl
  ·refine⟨_,rfl,rfl,?_⟩;refine AY (AX rfl rfl CU (yZ.LK hbi) (EG (by exact hx2))) rfl rfl ?_;refine⟨⟨(Le.trans (Le.trans (Le.trans (Le.trans (Le.trans (Le.refl _) hle13) hle18) hle48) hle72) hle104),(HSub.c 1 rfl HSub.n),CSub.n⟩,?_⟩;refine zO 9 rfl (AY (AX rfl rfl CU (yZ.LK hbr) (EG (by exact hx3))) rfl rfl ?_);refine⟨⟨(Le.trans (Le.trans (Le.trans (Le.trans (Le.trans (Le.refl _) hle13) hle18) hle48) hle72) hle104),(HSub.c 1 rfl HSub.n),CSub.n⟩,?_⟩;refine JA.fix AO (fun fx107=>?_);refine JA.tk 15 rfl fx107 (zN (pl:= #[(0,1),(1,1),(2,1),(3,1),(4,1)]) rfl rfl BN rfl tU32 (fun w=>by simp[DX,DZ,AV]) (FB.part rfl rfl rfl (AL.c AL.z) (FB.part rfl rfl rfl (AL.s (AL.c AL.z)) (FB.part rfl rfl rfl (AL.s (AL.s (AL.c AL.z))) (FB.part rfl rfl rfl (AL.s (AL.s (AL.s (AL.c AL.z)))) FB.none))))) ?_;refine zO 16 rfl (BZ 2 yV (AL.c (AL.c (AL.c (AL.c (AL.c AL.z))))) (AU.s (AU.s AU.z)) ?_);refine⟨⟨(Le.trans (Le.trans (Le.trans (Le.trans (Le.trans (Le.refl _) hle13) hle18) hle48) hle72) hle104),(HSub.c 1 rfl HSub.n),CSub.n⟩,?_⟩;refine EW ?_;refine Ej.seq (Cj.rs ?_);refine Ej.a1J (Keeps.k (Keeps.d (Keeps.d Keeps.n))) rfl rfl rfl (yZ.at 2 rfl) zL yV rfl ?_;rw[hmd];exact⟨⟨_,rfl,none,0,rfl,.inl rfl⟩,rfl⟩
  refine⟨_,rfl,rfl,?_⟩;refine AY (AX rfl rfl CU (yZ.LK hbr) (EG (by exact hx3))) rfl rfl ?_;refine yU 1 ?_;refine zO 4 rfl (AY (AX rfl rfl CU (yZ.LK hbi) (EG (by exact hx2))) rfl rfl ?_);refine⟨⟨(Le.trans (Le.trans (Le.trans (Le.trans (Le.trans (Le.refl _) hle13) hle18) hle48) hle72) hle104),(HSub.c 1 rfl HSub.n),CSub.n⟩,?_⟩;refine JA.fix AO (fun fx108=>?_);refine JA.tk 15 rfl fx108 (zN (pl:= #[(0,1),(1,1),(2,1),(3,1),(4,1)]) rfl rfl BN rfl tU32 (fun w=>by simp[DX,DZ,AV]) (FB.part rfl rfl rfl (AL.c AL.z) (FB.part rfl rfl rfl (AL.s (AL.c AL.z)) (FB.part rfl rfl rfl (AL.s (AL.s (AL.c AL.z))) (FB.part rfl rfl rfl (AL.s (AL.s (AL.s (AL.c AL.z)))) FB.none))))) ?_;refine zO 16 rfl (BZ 2 yV (AL.c (AL.c (AL.c (AL.c (AL.c AL.z))))) (AU.s (AU.s AU.z)) ?_);refine⟨⟨(Le.trans (Le.trans (Le.trans (Le.trans (Le.trans (Le.refl _) hle13) hle18) hle48) hle72) hle104),(HSub.c 1 rfl HSub.n),CSub.n⟩,?_⟩;refine EW ?_;refine Ej.seq (Cj.rs ?_);refine Ej.a1J (Keeps.k (Keeps.d (Keeps.d Keeps.n))) rfl rfl rfl (yZ.at 2 rfl) zL yV rfl ?_;rw[hmd];exact⟨⟨_,rfl,none,0,rfl,.inl rfl⟩,rfl⟩
 refine FM (fun hg125=>?_) (fun hg125=>?_)
 ·have hd0:deep=0:=by have h:=hg125;simp at h;omega
  refine yU 4 ?_;exact hcut (true,_) _ _ _ ⟨fun _=>by rw[hd0];rfl,fun h=>(by cases h),hl⟩ ⟨rfl,rfl,rfl,rfl,by first|rfl|exact congrArg some (congrArg Value.bool (by simp_all)),trivial⟩ rfl rfl
 have hd0:deep≠0:=by have h:=hg125;simp at h;omega
 refine yU 4 ?_;exact hcut (decide (((Cq.next l k 5).1:Int)<2),_) _ _ _ ⟨fun h=>by obtain⟨d,rfl⟩:∃d,deep=d+1:=⟨deep-1,by omega⟩;have h:=ED h;simp only[Cq.made];rw[if_pos (by omega)],fun h=>⟨deep-1,by omega,FQ h⟩,hl⟩ ⟨rfl,rfl,rfl,rfl,rfl,trivial⟩ rfl rfl
theorem a7V : ∀ deep, b5M deep
 | 0 => a4B 0 fun d h => by omega
 | deep + 1 => a4B (deep + 1) fun d h => by
  have : d = deep := by omega
  subst this; exact a7V d
theorem b7t v l (hll:l.length≤1000000000000) I (hl:a3V I l v):yY Tryz.prog 53 [v] I [] (fun e I' H'=>(∃u,e= .returned u∧QV I' (Cq.XY l) u)∧H'=[]):=by
 have hx1:=Cq.next_lt l 0 (n:=7) (by omega);obtain⟨pl,cl,hve⟩:=CQ hl;subst hve;refine zQ Tryz.func53 fun w0 hw0=>?_;refine yU 3 ?_;intro b1 hb1;refine J.QT (J.z qq2 ?_);refine J.z (zN (pl:= #[(0,1),(1,1)]) rfl rfl Tryz.zeroValue180 rfl Tryz.underlying180 (fun w=>by simp[Tryz.sizeOf23,DX]) (FB.part rfl rfl rfl (AL.c AL.z) FB.none)) ?_;refine J.op rfl (JM rfl rfl rfl rfl rfl ?_);intro b2 hb2;refine J.z EP ?_;refine J.QT (J.z qq2 ?_);refine J.z qq2 ?_;refine J.pull Pull.z ?_;refine J.op rfl (zM (H1:=[_]) rfl rfl rfl rfl rfl (JG b2 0 7 _ l _ hl hll (Nat.zero_le _) (by omega) (by omega)) ?_ (fun _ _ _ _ h=>by cases h.1) (fun _ _ h=>by cases h.1));intro v3 I4 H5 hle6 hp7;have hl:=hl.mono hle6;obtain⟨hv3,rfl⟩:=hp7;cases hv3;refine J.pull Pull.z ?_;refine AP (a7V (Cq.next l 0 7).1 b2 (Cq.next l 0 7).2 _ l _ hl hll (Cq.c2K l 7 (Nat.zero_le _)) (by omega)) ?_;intro v8 I9 H10 hle11 hp12;have hl:=hl.mono hle11;obtain⟨⟨v8x,hv8,pq,cq,rfl,hpq⟩,rfl⟩:=hp12;cases hv8;refine yU 4 ?_;refine Ej.a1J (Keeps.d (Keeps.d Keeps.n)) rfl rfl rfl (yZ.at 1 rfl) zL yV rfl ?_;exact⟨⟨_,rfl,pq,cq,rfl,hpq⟩,rfl⟩
def srW:List (List UInt8):=[[115,101,97],[69,109,109,97],[116,104,101,32,115,101,97],[49,57,56,52],[119,97,114,32,112,101,97,99,101],[49,57,57,57],[65,117,115,116,101,110],[97],[104,105,115,116,111,114,121],[122,122]]
theorem c3G n:(srW.getD (n % 10) []).length≤9:=by
  have h:n % 10<srW.length:=Nat.mod_lt _ (by decide);rw[List.getD_eq_getElem?_getD,BM h];exact(by decide:∀w∈srW,w.length≤9) _ (List.getElem_mem h)
theorem c4M n:(srW.map str)[n % 10]?=some (str (srW.getD (n % 10) [])):=by
  have h:=EG (l:=srW) (sp:=[]) (a:=n % 10) (Nat.mod_lt _ (by decide))
  rwa [List.append_nil]at h
structure Tx (q q':Cq.Qn):Prop where
  form:Cq.form q'=true
  depth:Cq.depth q'=Cq.depth q
  k:q'.k=q.k
  size:q'.size=q.size
  wide:q'.wide≤q.wide+9*(q.size+1)
theorem Tx.leaf{q}(hk:q.k=1)(hf:Cq.form q=true) w (hw:w.length≤9):Tx q ⟨q.k,q.i,q.r,w,q.ps⟩:=
  ⟨by rw[Cq.MG hk]at hf;rw[Cq.MG (by exact hk)];exact hf,by rw[Cq.QN hk,Cq.QN (by exact hk)],rfl,rfl,by simp only[Cq.Qn.wide,Cq.Qn.size];omega⟩
theorem Tx.same{q}(hf:Cq.form q=true):Tx q q:=⟨hf,rfl,rfl,rfl,by omega⟩
theorem Tx.two{q a b a' b'}(hk:q.k≠1)(h2:2≤q.k)(h4:q.k≤4)(ht:q.Two a b)(ha:Tx a a')(hb:Tx b b'):Tx q (Ix.EC q.k a' b'):=by
  have hs:=ht.sizes;refine⟨Ix.a5K h2 h4 ha.form hb.form,?_,rfl,by rw[Ix.b5d,ha.size,hb.size,hs.1],?_⟩
  · rw[Cq.SN hk ht,Cq.SN (q:=Ix.EC q.k a' b') (a:=a') (b:=b') hk rfl,ha.depth,hb.depth,hb.k]
  have h1:=ha.wide;have h3:=hb.wide;rw[Ix.b5Z];have h5:q.wide=q.i.length+q.r.length+q.t.length+q.ps.wide:=rfl;omega
def a9L (q:Cq.Qn):Prop:=∀(p:Option Addr) (c n:Nat) (I:Heap),PS I q.ps p→Cq.form q=true→q.wide≤1000000000→n+q.size≤2000000000000→
  yY Tryz.prog 52 [.agg (zT q p c).toArray,i64 (n:Int)] I [] (fun e I' H'=>(∃q' u,e= .returned u∧QV I' q' u∧Tx q q')∧H'=[])
theorem b5h q (ih:∀q',Cq.Qn.size q'<q.size→a9L q'):a9L q:=by
 intro p c n I hps hform hwd hn;have hwi:q.i.length+q.r.length+q.t.length≤1000000000:=by unfold Cq.Qn.wide at hwd;omega
 refine zQ Tryz.func52 fun w0 hw0=>?_;refine yU 3 ?_;intro b1 hb1;refine yU 1 ?_;intro b2 hb2;refine zK (fun hc3 hc3p=>?_) (fun hc3 hc3p=>?_)
 ·have hk:q.k≠1:=bne_iff_ne.1 hc3;obtain⟨_,hk2,hk4,qa,qb,htw,hfa,hfb⟩:=(Cq.FI hform).resolve_left hk;have hln:=htw.len;have hsz2:=htw.sizes;have hwd2:=htw.wide;obtain⟨bl,off,cs',T,fr,pa,ca,pb,cb,rfl,hbl,hca,hcb,hkb,hpa,hpb⟩:=hps.KO htw;refine yU 1 ?_;refine Cj.EX [1] [] 18 (by kernel_rfl) ?_;have hbl_2:=hbl;refine yU 4 ?_;refine JA.fix AO (fun fx4=>?_);refine JA.tk 4 rfl fx4 (FX (off':=off) BP yV) ?_;refine JA.tk 5 rfl fx4 (BJ zL yV (yZ.OA hbl_2) hca) ?_;refine JA.tk 6 rfl fx4 qq2 ?_;refine JA.tk 8 rfl fx4 (CV (off':=4) tU32 DZ) ?_;refine JA.tk 9 rfl fx4 (DF QS (yZ.atC 0 rfl)) ?_;refine JA.tk 10 rfl fx4 (FX (off':=off+5) BP yV) ?_;refine JA.tk 11 rfl fx4 (BJ zL yV (yZ.OA hbl_2) hcb) ?_;refine JA.tk 12 rfl fx4 qq2 ?_;refine JA.tk 13 rfl fx4 (NQ rfl rfl rfl (IU (by omega))) ?_;refine JA.eqv 22 rfl (show _=i64 ((n+1:Nat):Int) from(congrArg i64 (by omega))) ?_;refine zO 7 rfl (zM (H1:=[]) rfl rfl rfl rfl rfl (ih qa (by omega) pa ca n _ hpa hfa (by omega) (by omega)) ?_ (fun _ _ _ _ h=>by obtain⟨⟨_,_,h,_⟩,_⟩:=h;cases h) (fun _ _ h=>by obtain⟨⟨_,_,h,_⟩,_⟩:=h;cases h));intro v5 I6 H7 hle8 hp9;have hbl:=hle8 _ _ hbl;have hpa:=hpa.mono hle8;have hpb:=hpb.mono hle8;obtain⟨⟨q1,v5x,hv5,⟨p1,c1,rfl,hp1⟩,ht1⟩,rfl⟩:=hp9;cases hv5;refine⟨⟨(Le.trans (Le.refl _) hle8),(HSub.c 1 rfl HSub.n),CSub.n⟩,?_⟩;refine zO 14 rfl (zM (H1:=[]) rfl rfl rfl rfl rfl (ih qb (by omega) pb cb (n+1) _ hpb hfb (by omega) (by omega)) ?_ (fun _ _ _ _ h=>by obtain⟨⟨_,_,h,_⟩,_⟩:=h;cases h) (fun _ _ h=>by obtain⟨⟨_,_,h,_⟩,_⟩:=h;cases h));intro v10 I11 H12 hle13 hp14;have hbl:=hle13 _ _ hbl;have hpa:=hpa.mono hle13;have hpb:=hpb.mono hle13;have hp1:=hp1.mono hle13;obtain⟨⟨q2,v10x,hv10,⟨p2,c2,rfl,hp2⟩,ht2⟩,rfl⟩:=hp14;cases hv10;refine⟨⟨(Le.trans (Le.trans (Le.refl _) hle8) hle13),(HSub.c 1 rfl HSub.n),CSub.n⟩,?_⟩;refine zO 15 rfl (ER BP yV BN (EH.agg rfl (EH.agg rfl EH.none)) ?_);intro b15 hb15;refine⟨⟨(Le.trans (Le.trans (Le.refl _) hle8) hle13),(HSub.c 2 rfl HSub.n),CSub.n⟩,?_⟩;refine JA.persist hb15 (fun I17 hle16 hb15i=>?_);have hbl:=hle16 _ _ hbl;have hpa:=hpa.mono hle16;have hpb:=hpb.mono hle16;have hp1:=hp1.mono hle16;have hp2:=hp2.mono hle16;refine JA.fix AO (fun fx18=>?_);refine JA.tk 16 rfl fx18 (zN (pl:= #[(0,1),(1,1),(2,1),(3,1),(4,1)]) rfl rfl BN rfl tU32 (fun w=>by simp[DX,DZ,AV]) (FB.part rfl rfl rfl (AL.c AL.z) (FB.part rfl rfl rfl (AL.s (AL.s (AL.s (AL.s (AL.c AL.z))))) FB.none))) ?_;refine zO 17 rfl (BZ 0 yV (AL.c (AL.c (AL.c (AL.c (AL.c AL.z))))) AU.z ?_);refine⟨⟨(Le.trans (Le.trans (Le.trans (Le.refl _) hle8) hle13) hle16),(HSub.c 1 rfl HSub.n),CSub.n⟩,?_⟩;refine EW ?_;refine Ej.seq (Cj.rs ?_);refine Ej.a1J (Keeps.d (Keeps.d Keeps.n)) rfl rfl rfl (yZ.at 0 rfl) zL yV rfl ?_;exact⟨⟨Ix.EC q.k q1 q2,_,rfl,⟨some ⟨b15,0,none⟩,2,rfl,PS.two hp1 hp2 hb15i⟩,Tx.two hk hk2 hk4 htw ht1 ht2⟩,rfl⟩
 have hk:q.k=1:=JR hc3;refine yU 5 ?_;intro b19 hb19;refine zK (fun hc20 hc20p=>?_) (fun hc20 hc20p=>?_)
 ·refine yU 16 ?_;refine J.ev 46 (i64 (((q.t.length+n+q.r.length+q.i.length) % 10:Nat):Int)) rfl (congrArg i64 (by rw[Int.tmod_eq_emod_of_nonneg (by omega)];omega)) ?_;refine zW (((q.t.length+n+q.r.length+q.i.length) % 10)) ?_;refine J.z (DU CU (yZ.at 0 rfl) (c4M (q.t.length+n+q.r.length+q.i.length))) ?_;refine J.z (CV (off':=3) tU32 AV) ?_;refine J.op rfl (BZ 2 AV (AL.s (AL.s (AL.s (AL.c AL.z)))) (AU.s (AU.s AU.z)) ?_);refine J.QT (J.z (FU zL yV (yZ.at 2 rfl)) ?_);refine J.op rfl (BZ 1 yV (AL.c (AL.c (AL.c (AL.c (AL.c AL.z))))) (AU.s AU.z) ?_);refine J.ns (Cj.ret ?_);refine Ej.a1J (Keeps.d (Keeps.d (Keeps.d Keeps.n))) rfl rfl rfl (yZ.at 1 rfl) zL yV rfl ?_;exact⟨⟨⟨q.k,q.i,q.r,srW.getD ((q.t.length+n+q.r.length+q.i.length) % 10) [],q.ps⟩,_,rfl,⟨p,c,rfl,hps⟩,Tx.leaf hk hform _ (c3G _)⟩,rfl⟩
 refine Cj.ks (Cj.sr (J.z (FU zL yV (yZ.at 2 rfl)) ?_));refine J.op rfl (BZ 1 yV (AL.c (AL.c (AL.c (AL.c (AL.c AL.z))))) (AU.s AU.z) ?_);refine J.ns (Cj.ret ?_);refine Ej.a1J (Keeps.d (Keeps.d (Keeps.d Keeps.n))) rfl rfl rfl (yZ.at 1 rfl) zL yV rfl ?_;exact⟨⟨q,_,rfl,⟨p,c,rfl,hps⟩,Tx.same hform⟩,rfl⟩
theorem c2d q:a9L q:=by
  suffices ∀n (q:Cq.Qn),q.size<n→a9L q from this _ q (Nat.lt_succ_self _)
  intro n
  induction n with
  |zero=>intro q h;omega
  |succ n ih=>intro q h;exact b5h q fun q' h'=>ih q' (by omega)
structure c4N (q:Cq.Qn):Prop where
  form:Cq.form q=true
  depth:Cq.depth q≤6
  size:q.size≤200
  wide:q.wide≤12000
theorem b6Z v l (hll:l.length≤1000000000000) I (hl:a3V I l v):yY Tryz.prog 16 [v] I [] (fun e I' H'=>(∃q u,e= .returned u∧QV I' q u∧c4N q)∧H'=[]):=by
 obtain⟨hf,hd,hw,hz⟩:=Cq.b6m l;have hwd:=Cq.b5W hf;obtain⟨pl,cl,hve⟩:=CQ hl;subst hve;refine zQ Tryz.func16 fun w0 hw0=>?_;refine yU 3 ?_;intro b1 hb1;refine AP (b7t _ l hll _ hl) ?_;intro v2 I3 H4 hle5 hp6;have hl:=hl.mono hle5;obtain⟨⟨v2x,hv2,pq,cq,rfl,hpq⟩,rfl⟩:=hp6;cases hv2;refine AP (c2d (Cq.XY l) pq cq l.length _ hpq hf (by omega) (by omega)) ?_;intro v7 I8 H9 hle10 hp11;have hl:=hl.mono hle10;have hpq:=hpq.mono hle10;obtain⟨⟨q2,v7x,hv7,⟨p2,c2,rfl,hp2⟩,ht2⟩,rfl⟩:=hp11;cases hv7;refine yU 4 ?_;refine Ej.a1J (Keeps.d Keeps.n) rfl rfl rfl (yZ.at 0 rfl) zL yV rfl ?_;exact⟨⟨q2,_,rfl,⟨p2,c2,rfl,hp2⟩,⟨ht2.form,by rw[ht2.depth];exact hd,by rw[ht2.size];exact hz,by have:=ht2.wide;omega⟩⟩,rfl⟩
end Go.Proofs.YtekmeaoblpfnpaaGreatDoor
end
section
namespace Go.Proofs.YtekmeaoblpfnpaaGreatDoor
open _root_.Go.Proofs.Tryz
open Go Go.Sx
theorem nb0(a:Nat):((a:Int) == 0)=(a == 0):=nb a 0
def a1I (q:Cq.Qn):Prop:=∀(p:Option Addr) (c:Nat) (I:Heap),PS I q.ps p→Pure Tryz.prog 111 [.agg (zT q p c).toArray] I (.bool (Cq.form q))
def a0o (q:Cq.Qn):Prop:=∀(p:Option Addr) (c:Nat) (I:Heap),PS I q.ps p→Cq.form q=true→Cq.depth q≤1000000000→Pure Tryz.prog 112 [.agg (zT q p c).toArray] I (i64 (Cq.depth q:Nat))
def a0u (a:Cq.Qn):Prop:=∀(b:Cq.Qn) (p p2:Option Addr) (c c2:Nat) (I:Heap),PS I a.ps p→PS I b.ps p2→a.size≤1000000000→Pure Tryz.prog 45 [.agg (zT a p c).toArray,.agg (zT b p2 c2).toArray] I (.bool (decide (a=b)))
theorem b3M{a b:Cq.Qn}(h1:a.k=b.k)(h2:a.i=b.i)(h3:a.r=b.r)(h4:a.t=b.t)(h5:a.ps=b.ps):a=b:=by cases a;cases b;simp_all
theorem b2k l x v (hl:l.length≤1000000) I (hv:JH 9 I l v):Pure Tryz.prog 173 [v,str x] I (.bool (l.contains x)):=by
 obtain⟨bb,cc,sp,rfl,hbb⟩:=hv;refine zQ Tryz.func173 fun w0 hw0=>?_;refine yU 12 ?_;refine Cj.loop (ι:=Nat) (fun k=>k≤l.length∧∀j y,j<k→l[j]?=some y→y≠x) (fun k=>l.length-k) (fun k=>[(0,.slice (some ⟨bb,0,none⟩) l.length cc),(1,str x),(5,i64 (k:Int))]) (fun k=>I) (fun k=>[]) 0 ⟨by omega,fun j y h=>absurd h (by omega)⟩ ⟨rfl,rfl,rfl,trivial⟩ rfl rfl ?_;rintro k ⟨hk,hall⟩;refine zK (fun hc1 hc1p=>?_) (fun hc1 hc1p=>?_)
 ·have hlt:k<l.length:=by omega
  obtain⟨y,hget⟩:∃y,l[k]?=some y:=⟨_,BM hlt⟩;refine zW k ?_;refine J.z (DU CU (yZ.LK hbb) (FT hget)) ?_;refine zK (fun hc2 hc2p=>?_) (fun hc2 hc2p=>?_)
  ·refine zV ?_;have:l.contains x=true:=by rw[List.contains_iff_mem];exact CX (hc2p▸hget)
   rw[this];exact⟨rfl,rfl,rfl⟩
  refine yU 8 ?_;refine Ej.round (k+1) ⟨by omega,fun j y hj hy=>by rcases Nat.lt_succ_iff_lt_or_eq.1 hj with h|rfl;exact hall j y h hy;rw[hget]at hy;cases hy;exact hc2p⟩ (by omega) ⟨rfl,rfl,rfl,trivial⟩ rfl rfl
 refine zV ?_;have:l.contains x=false:=by
   rw[Bool.eq_false_iff];intro h;rw[List.contains_iff_mem]at h;obtain⟨j,hj⟩:=List.mem_iff_getElem?.1 h;obtain⟨hjl,_⟩:=List.getElem?_eq_some_iff.1 hj;exact hall j x (by omega) hj rfl
 rw[this];exact⟨rfl,rfl,rfl⟩
theorem b8C q (ih:∀q',Cq.Qn.size q'<q.size→a1I q'):a1I q:=by
 intro p c I hps;refine yY.toPure ?_;refine zQ Tryz.func111 fun w0 hw0=>?_;refine yU 3 ?_;intro b1 hb1;refine zK (fun hc2 hc2p=>?_) (fun hc2 hc2p=>?_)
 ·have hk:q.k=1:=by omega
  refine yU 1 ?_;refine Cj.EX [0] [] 5 (by kernel_rfl) ?_;refine AP (a4n _) ?_;intro v4 I5 H6 hle7 hp8;have hps:=hps.mono hle7;obtain⟨⟨v4x,hv4,hsv4⟩,rfl⟩:=hp8;cases hv4;refine zX (b2k Cq.indexes _ _ (by decide) _ hsv4) ?_;refine yU 5 ?_;refine Cj.EX [0] [] 5 (by kernel_rfl) ?_;refine AP (XI _) ?_;intro v11 I12 H13 hle14 hp15;have hps:=hps.mono hle14;have hsv4:=hsv4.mono hle14;obtain⟨⟨v11x,hv11,hsv11⟩,rfl⟩:=hp15;cases hv11;refine zX (b2k Cq.relations _ _ (by decide) _ hsv11) ?_;refine FM (fun hg17=>?_) (fun hg17=>?_)
  ·refine FM (fun hg18=>?_) (fun hg18=>?_)
   ·refine AB ?_;refine⟨?_,rfl⟩;rw[Cq.MG hk]
    simp_all[nb0]
   refine AB ?_;refine⟨?_,rfl⟩;rw[Cq.MG hk]
   simp_all[nb0]
  refine AB ?_;refine⟨?_,rfl⟩;rw[Cq.MG hk]
  simp_all[nb0]
 have hk:q.k≠1:=by omega
 refine FM (fun hg19=>?_) (fun hg19=>?_)
 ·refine AB ?_;rw[Cq.VT hk (.inl (by have h:=hg19;simp at h;omega))];exact⟨rfl,rfl⟩
 refine FM (fun hg21=>?_) (fun hg21=>?_)
 ·refine AB ?_;rw[Cq.VT hk (.inr (.inl (by have h:=hg21;simp at h;omega)))];exact⟨rfl,rfl⟩
 refine FM (fun hg23=>?_) (fun hg23=>?_)
 ·refine AB ?_;rw[Cq.VT hk (.inr (.inr (.inl (by have h:=hg23;simp at h;exact h))))];exact⟨rfl,rfl⟩
 refine FM (fun hg25=>?_) (fun hg25=>?_)
 ·refine AB ?_;rw[Cq.VT hk (.inr (.inr (.inr (.inl (by have h:=hg25;simp at h;exact h)))))];exact⟨rfl,rfl⟩
 refine FM (fun hg27=>?_) (fun hg27=>?_)
 ·refine AB ?_;rw[Cq.VT hk (.inr (.inr (.inr (.inr (.inl (by have h:=hg27;simp at h;exact h))))))];exact⟨rfl,rfl⟩
 refine zK (fun hc29 hc29p=>?_) (fun hc29 hc29p=>?_)
 ·refine AB ?_;rw[Cq.VT hk (.inr (.inr (.inr (.inr (.inr (by have h:=hc29;simp at h;omega))))))];exact⟨rfl,rfl⟩
 have hg31:=hg19;have hg36:=hg21;have hg41:=hg23;have hg46:=hg25;have hg51:=hg27;have hg56:=hc29;have hgood:¬(q.k<2∨q.k>4∨q.i≠[]∨q.r≠[]∨q.t≠[]∨q.ps.len≠2):=by
   simp at hg31 hg36 hg41 hg46 hg51 hg56;simp[hg41,hg46,hg51];omega
 obtain⟨qa,qb,htw⟩:=Cq.Qs.b2h (ps:=q.ps) (by omega)
 change q.Two qa qb at htw
 have hln:=htw.len;obtain⟨bl,off,cs',T,fr,pa,ca,pb,cb,rfl,hbl,hca,hcb,hkb,hpa,hpb⟩:=hps.KO htw;refine zW off ?_;refine J.z (BJ zL yV (yZ.LK hbl) hca) ?_;refine zX (ih qa htw.size.1 pa ca _ hpa) ?_;refine zW (off+5) ?_;refine J.z (BJ zL yV (yZ.LK hbl) hcb) ?_;refine zX (ih qb htw.size.2 pb cb _ hpb) ?_;refine FM (fun hg30=>?_) (fun hg30=>?_)
 ·refine AB ?_;refine⟨?_,rfl⟩;rw[Cq.SE hk hgood htw]
  simp_all
 refine AB ?_;refine⟨?_,rfl⟩;rw[Cq.SE hk hgood htw]
 simp_all
theorem c2T q : a1I q := by
  suffices ∀ n (q : Cq.Qn), q.size < n → a1I q from this _ q (Nat.lt_succ_self _)
  intro n
  induction n with
  | zero => intro q h; omega
  | succ n ih => intro q h; exact b8C q fun q' h' => ih q' (by omega)
theorem b4Q q (ih:∀q',Cq.Qn.size q'<q.size→a0o q'):a0o q:=by
 intro p c I hps hform hdep;refine zQ Tryz.func112 fun w0 hw0=>?_;refine yU 3 ?_;intro b1 hb1;refine zK (fun hc2 hc2p=>?_) (fun hc2 hc2p=>?_)
 ·have hk:q.k=1:=by omega
  refine AB ?_;rw[Cq.QN hk];exact⟨rfl,rfl,rfl⟩
 have hk:q.k≠1:=by omega
 obtain⟨_,_,_,qa,qb,htw,hfa,hfb⟩:=(Cq.FI hform).resolve_left hk;have hdd:=Cq.SN hk htw;have hup:Cq.up qb.k≤1:=by unfold Cq.up;split<;>omega
 have hln:=htw.len;obtain⟨bl,off,cs',T,fr,pa,ca,pb,cb,rfl,hbl,hca,hcb,hkb,hpa,hpb⟩:=hps.KO htw;refine zW (off+5) ?_;refine J.z (BJ zL yV (yZ.LK hbl) hcb) ?_;refine zX (ih qb htw.size.2 pb cb _ hpb hfb (by omega)) ?_;refine zW (off+5) ?_;refine yU 1 ?_;refine J.z (DU OG (yZ.LK hbl) hkb) ?_;refine zK (fun hc3 hc3p=>?_) (fun hc3 hc3p=>?_)
 ·have hku:Cq.up qb.k=1:=by have h:=hc3;simp at h;simp[Cq.up,h]
  refine zW off ?_;refine J.z (BJ zL yV (yZ.LK hbl) hca) ?_;refine zX (ih qa htw.size.1 pa ca _ hpa hfa (by omega)) ?_;refine J.z (SK rfl rfl rfl) ?_;refine AB ?_;refine⟨?_,rfl,rfl⟩;rw[hdd,hku]
  congr 1;congr 1;omega
 have hku:Cq.up qb.k=0:=by have h:=hc3;simp at h;simp[Cq.up,h]
 refine zW off ?_;refine J.z (BJ zL yV (yZ.LK hbl) hca) ?_;refine zX (ih qa htw.size.1 pa ca _ hpa hfa (by omega)) ?_;refine J.z (SK rfl rfl rfl) ?_;refine AB ?_;refine⟨?_,rfl,rfl⟩;rw[hdd,hku]
 congr 1;congr 1;omega
theorem c1f q:a0o q:=by
  suffices ∀n (q:Cq.Qn),q.size<n→a0o q from this _ q (Nat.lt_succ_self _)
  intro n
  induction n with
  |zero=>intro q h;omega
  |succ n ih=>intro q h;exact b4Q q fun q' h'=>ih q' (by omega)
theorem a4Z q p c (hdep:Cq.depth q≤1000000000) I (hps:PS I q.ps p):Pure Tryz.prog 60 [.agg (zT q p c).toArray] I (.bool (Cq.right q)):=by
 refine yY.toPure ?_;refine zQ Tryz.func60 fun w0 hw0=>?_;refine yU 3 ?_;intro b1 hb1;refine zX (c2T q p c _ hps) ?_;refine DI (fun hc2=>?_) (fun hc2=>?_)
 ·have hform:Cq.form q=false:=by have h:=hc2;simpa using h
  refine AB ?_;refine⟨?_,rfl⟩;simp[Cq.right,hform]<;>omega
 have hform:Cq.form q=true:=by have h:=hc2;simpa using h
 refine zX (c1f q p c _ hps hform hdep) ?_;refine AB ?_;refine⟨?_,rfl⟩;simp[Cq.right,hform]<;>omega
theorem b6k a (ih:∀a',Cq.Qn.size a'<a.size→a0u a'):a0u a:=by
 intro b p p2 c c2 I hps hps2 hsz;have hlen:a.ps.len≤1000000000:=FD Cq.Qs.a4K hsz;refine yY.toPure ?_;refine zQ Tryz.func45 fun w0 hw0=>?_;refine yU 3 ?_;intro b1 hb1;refine yU 1 ?_;intro b2 hb2;refine FM (fun hg3=>?_) (fun hg3=>?_)
 ·refine AB ?_;have hne:a≠b:=by intro he;have h:=hg3;rw[he]at h;simp at h
  refine⟨?_,rfl⟩;simp[hne]
 refine FM (fun hg5=>?_) (fun hg5=>?_)
 ·refine AB ?_;have hne:a≠b:=by intro he;have h:=hg5;rw[he]at h;simp at h
  refine⟨?_,rfl⟩;simp[hne]
 refine FM (fun hg7=>?_) (fun hg7=>?_)
 ·refine AB ?_;have hne:a≠b:=by intro he;have h:=hg7;rw[he]at h;simp at h
  refine⟨?_,rfl⟩;simp[hne]
 refine FM (fun hg9=>?_) (fun hg9=>?_)
 ·refine AB ?_;have hne:a≠b:=by intro he;have h:=hg9;rw[he]at h;simp at h
  refine⟨?_,rfl⟩;simp[hne]
 refine zK (fun hc11 hc11p=>?_) (fun hc11 hc11p=>?_)
 ·refine AB ?_;have hne:a≠b:=by intro he;have h:=hc11;rw[he]at h;simp at h
  refine⟨?_,rfl⟩;simp[hne]
 have hfk:a.k=b.k:=by have h:=hg3;simp at h;first|exact h|omega
 have hfi:a.i=b.i:=by have h:=hg5;simp at h;first|exact h|omega
 have hfr:a.r=b.r:=by have h:=hg7;simp at h;first|exact h|omega
 have hft:a.t=b.t:=by have h:=hg9;simp at h;first|exact h|omega
 have hfl:a.ps.len=b.ps.len:=by have h:=hc11;simp at h;first|exact h|omega
 refine yU 9 ?_;refine Cj.loop (ι:=Nat) (fun k=>k≤a.ps.len∧∀j,j<k→a.ps.get j=b.ps.get j) (fun k=>a.ps.len-k) (fun k=>[(2,ptr b1 0),(3,ptr b2 0),(5,i64 (k:Int))]) (fun k=>I) (fun k=>[(b2,yX 32 (zT b p2 c2)),(b1,yX 32 (zT a p c))]) 0 ⟨Nat.zero_le _,fun j h=>absurd h (by omega)⟩ ⟨rfl,rfl,rfl,trivial⟩ rfl rfl ?_;rintro k ⟨hk,hall⟩;refine zK (fun hc12 hc12p=>?_) (fun hc12 hc12p=>?_)
 ·have hlt:k<a.ps.len:=by omega
  obtain⟨x,hx⟩:=Cq.Qs.b2y hlt;obtain⟨y,hy⟩:=Cq.Qs.b2y (ps:=b.ps) (hfl▸hlt);obtain⟨bl,off,cs',T,fr,rfl,hbl,hat⟩:=hps.at (by omega);obtain⟨bm,off2,cs2,T2,fr2,rfl,hbm,hat2⟩:=hps2.at (by omega);obtain⟨px,cx,hca,hpx⟩:=hat k x hx;obtain⟨py,cy,hcb,hpy⟩:=hat2 k y hy;refine yU 5 ?_;refine Cj.EX [0,1] [] 12 (by kernel_rfl) ?_;have hbl_6:=hbl;have hbm_6:=hbm;refine zW (off+k*5) ?_;refine JA.zt 4 rfl (BJ zL yV (yZ.OA hbl_6) hca) ?_;refine zW (off2+k*5) ?_;refine JA.zt 9 rfl (BJ zL yV (yZ.OA hbm_6) hcb) ?_;refine zX (ih x (Cq.Qs.a5f hx:x.size<a.ps.size) y px py cx cy _ hpx hpy (by have:=Cq.Qs.a5f hx;unfold Cq.Qn.size at hsz;omega)) ?_;refine DI (fun hc15=>?_) (fun hc15=>?_)
  ·have hxy:x≠y:=by have h:=hc15;simpa using h
   refine AB ?_;refine⟨?_,rfl⟩;have hne:a≠b:=fun he=>hxy (by rw[he]at hx;exact Option.some.inj (hx.symm.trans hy));simp[hne]
  have hxy:x=y:=by have h:=hc15;simpa using h
  refine yU 8 ?_;refine Ej.round (k+1) ⟨by omega,fun j hj=>(Nat.lt_succ_iff_lt_or_eq.1 hj).elim (hall j) (fun h=>by rw[h,hx,hy,hxy])⟩ (by omega) ⟨rfl,rfl,rfl,trivial⟩ rfl rfl
 refine AB ?_;refine⟨?_,rfl⟩;have he:a=b:=b3M hfk hfi hfr hft (Cq.Qs.ext hfl fun j hj=>hall j (by omega));simp[he]
theorem a2o a:a0u a:=by
  suffices ∀n (a:Cq.Qn),a.size<n→a0u a from this _ a (Nat.lt_succ_self _)
  intro n
  induction n with
  |zero=>intro q h;omega
  |succ n ih=>intro q h;exact b6k q fun q' h'=>ih q' (by omega)
end Go.Proofs.YtekmeaoblpfnpaaGreatDoor
end
section
namespace Go.Proofs.YtekmeaoblpfnpaaGreatDoor
open _root_.Go.Proofs.Tryz
open Go Go.Sx
abbrev Rng (x:Int):Prop:= -9223372036854775808≤x∧x≤9223372036854775807
def a6k (q:Cq.Qn):Prop:=∀(p:Option Addr) (c:Nat) (x y:Int) (I:Heap),PS I q.ps p→q.size≤1000000→Rng x→Rng y→
  yY Tryz.prog 17 [.agg (zT q p c).toArray,.agg #[i64 x,i64 y]] I [] (fun e I' H'=>(∃q' u,e= .returned u∧QV I' q' u∧q'.size≤q.size+1∧q'.wide≤q.wide+7)∧H'=[])
def spI:List (List UInt8):=[[],[99,111,108,111,114],[84,105,116,108,101]]
def spR:List (List UInt8):=[[],[62],[65,78,89],[61]]
theorem b6w{l:List (List UInt8)}{n}(h:n<l.length):(l.map str)[n]?=some (str (l.getD n [])):=by
  simp[List.getD,BM h]
theorem getD_in{l:List (List UInt8)}{n}(h:n<l.length):l.getD n []∈l:=by
  rw[List.getD,BM h];exact List.getElem_mem h
theorem c2G{n}(h:n<spI.length):(spI.getD n []).length≤7:=(by decide:∀w∈spI,w.length≤7) _ (getD_in h)
theorem c3p{n}(h:n<spR.length):(spR.getD n []).length≤7:=(by decide:∀w∈spR,w.length≤7) _ (getD_in h)
theorem b0m q (ih:∀q',Cq.Qn.size q'<q.size→a6k q'):a6k q:=by
 intro p c x y I hps hsz hx hy;have hx9:=Cq.b4x x (n:=9) (by omega);have hy2:=Cq.b4x y (n:=2) (by omega);have hy7:=Cq.b4x y (n:=7) (by omega);have hy3:=Cq.b4x y (n:=3) (by omega);have hy4:=Cq.b4x y (n:=4) (by omega);simp only[Int.cast_ofNat_Int]at hx9 hy2 hy7 hy3 hy4;have hi3:=c2G (n:=Cq.a6x y 3) hy3.2.1;have hr4:=c3p (n:=Cq.a6x y 4) hy4.2.1;have htx:=b1l (n:=9) (by decide) hx;have hty:=b1l (n:=2) (by decide) hy;refine zQ Tryz.func17 fun w0 hw0=>?_;refine yU 3 ?_;intro b1 hb1;refine yU 1 ?_;intro b2 hb2;refine yU 1 ?_;intro b3 hb3;refine yU 9 ?_;refine J.ev 11 (i64 (Cq.a6x x 9:Nat)) rfl (by rw[←hx9.1]) ?_;refine yU 3 ?_;refine Cj.join (ι:=Unit) (fun _y=>True) (fun _y=>[(2,ptr b1 0),(3,ptr b2 0),(4,ptr b3 0),(5,i64 (Cq.a6x x 9:Nat))]) (fun _y=>I) (fun _y=>[(b3,yX 32 (zT Cq.zero none 0)),(b2,yX 24 [i64 x,i64 y]),(b1,yX 32 (zT q p c))]) ?_ (fun hcut=>?_)
 ·rintro _ -;refine zK (fun hc4 hc4p=>?_) (fun hc4 hc4p=>?_)
  ·refine yU 6 ?_;refine J.ev 55 (i64 (Cq.a6x y 7:Nat)) rfl (by rw[←hy7.1]) ?_;refine J.z (RI rfl rfl rfl (IU (by omega))) ?_;refine J.z (CV (off':=0) tU32 DX) ?_;refine J.op rfl (BZ 2 DX (AL.c AL.z) (AU.s (AU.s AU.z)) ?_);refine J.nb (Cj.sr (J.z (FU zL yV (yZ.at 2 rfl)) ?_));refine J.op rfl (BZ 0 yV (AL.c (AL.c (AL.c (AL.c (AL.c AL.z))))) AU.z ?_);refine J.ns (Cj.ret ?_);refine Ej.a1J (Keeps.d (Keeps.d (Keeps.d Keeps.n))) rfl rfl rfl (yZ.at 0 rfl) zL yV rfl ?_;exact⟨⟨⟨(Cq.a6x y 7:Int)-1,q.i,q.r,q.t,q.ps⟩,_,rfl,⟨p,c,rfl,hps⟩,by simp only[Cq.Qn.size];omega,by simp only[Cq.Qn.wide];omega⟩,rfl⟩
  refine zK (fun hc5 hc5p=>?_) (fun hc5 hc5p=>?_)
  ·refine yU 2 ?_;intro b6 hb6;refine yU 5 ?_;refine J.ev 65 (i64 (Cq.a6x y 3:Nat)) rfl (by rw[←hy3.1]) ?_;refine zW ((Cq.a6x y 3)) ?_;refine J.z (DU CU (yZ.at 0 rfl) (b6w (l:=spI) hy3.2.1)) ?_;refine J.z (CV (off':=1) tU32 AV) ?_;refine J.op rfl (BZ 3 AV (AL.s (AL.c AL.z)) (AU.s (AU.s (AU.s AU.z))) ?_);refine J.nb (Cj.sr (J.z (FU zL yV (yZ.at 3 rfl)) ?_));refine J.op rfl (BZ 1 yV (AL.c (AL.c (AL.c (AL.c (AL.c AL.z))))) (AU.s AU.z) ?_);refine J.ns (Cj.ret ?_);refine Ej.a1J (Keeps.d (Keeps.d (Keeps.d (Keeps.d Keeps.n)))) rfl rfl rfl (yZ.at 1 rfl) zL yV rfl ?_;exact⟨⟨⟨q.k,spI.getD (Cq.a6x y 3) [],q.r,q.t,q.ps⟩,_,rfl,⟨p,c,rfl,hps⟩,by simp only[Cq.Qn.size];omega,by simp only[Cq.Qn.wide];omega⟩,rfl⟩
  refine zK (fun hc7 hc7p=>?_) (fun hc7 hc7p=>?_)
  ·refine yU 2 ?_;intro b8 hb8;refine yU 5 ?_;refine J.ev 76 (i64 (Cq.a6x y 4:Nat)) rfl (by rw[←hy4.1]) ?_;refine zW ((Cq.a6x y 4)) ?_;refine J.z (DU CU (yZ.at 0 rfl) (b6w (l:=spR) hy4.2.1)) ?_;refine J.z (CV (off':=2) tU32 AV) ?_;refine J.op rfl (BZ 3 AV (AL.s (AL.s (AL.c AL.z))) (AU.s (AU.s (AU.s AU.z))) ?_);refine J.nb (Cj.sr (J.z (FU zL yV (yZ.at 3 rfl)) ?_));refine J.op rfl (BZ 1 yV (AL.c (AL.c (AL.c (AL.c (AL.c AL.z))))) (AU.s AU.z) ?_);refine J.ns (Cj.ret ?_);refine Ej.a1J (Keeps.d (Keeps.d (Keeps.d (Keeps.d Keeps.n)))) rfl rfl rfl (yZ.at 1 rfl) zL yV rfl ?_;exact⟨⟨⟨q.k,q.i,spR.getD (Cq.a6x y 4) [],q.t,q.ps⟩,_,rfl,⟨p,c,rfl,hps⟩,by simp only[Cq.Qn.size];omega,by simp only[Cq.Qn.wide];omega⟩,rfl⟩
  refine zK (fun hc9 hc9p=>?_) (fun hc9 hc9p=>?_)
  ·refine yU 1 ?_;refine J.op rfl (QK rfl rfl rfl BP yV ?_);intro b10 hb10;refine J.z (CV (off':=4) tU32 DZ) ?_;refine J.z (DF QS (yZ.at 3 rfl)) ?_;obtain⟨ys,hysl,hysq,hsrc⟩:=hps.src c;refine J.pull (Pull.s (Pull.s (Pull.s Pull.z))) ?_;refine J.pull (Pull.s (Pull.s (Pull.s Pull.z))) ?_;refine J.pull (Pull.s (Pull.s (Pull.s Pull.z))) ?_;refine J.op rfl (AQ (by':=79) (n:=0) (g:=some (b10,0,[])) (xs:=[]) [_,_,_] rfl rfl rfl rfl rfl BP (.inr ⟨_,BP⟩) (by kernel_rfl) yV BN rfl ⟨hb10,rfl,rfl⟩ rfl (hsrc _) (by have:=Cq.Qs.a4K (ps:=q.ps);unfold Cq.Qn.size at hsz;omega) ?_);intro g11 hg11;refine J.z (zN (pl:= #[(0,1),(1,1),(2,1),(3,1),(4,1)]) rfl rfl BN rfl tU32 (fun w=>by simp[DX,DZ,AV]) (FB.part rfl rfl rfl (AL.c AL.z) (FB.part rfl rfl rfl (AL.s (AL.c AL.z)) (FB.part rfl rfl rfl (AL.s (AL.s (AL.c AL.z))) FB.none)))) ?_;refine J.op rfl (ER BP yV BN (EH.agg rfl EH.none) ?_);intro b12 hb12;refine J.op rfl (AQ (by':=79) [_,_,_,_] rfl rfl rfl rfl rfl BP (.inr ⟨_,BP⟩) (by kernel_rfl) yV BN rfl hg11 rfl (Src.slice (yZ.at 0 rfl) rfl rfl rfl) (by have:=Cq.Qs.a4K (ps:=q.ps);unfold Cq.Qn.size at hsz;omega) ?_);intro g13 hg13;obtain⟨bg14,cg15,sp16,rfl,hbg14⟩:=hg13.some (by omega);refine J.ev 88 (.slice (some ⟨bg14,0,none⟩) (q.ps.app ((⟨1,[97,110,121],[61],[],.nil⟩:Cq.Qn).push .nil)).len cg15) rfl (by rw[Cq.Qs.b3Z];simp only[Nat.zero_add,gV];rfl) ?_;refine yU 7 ?_;refine J.pull (Pull.s (Pull.s (Pull.s (Pull.s Pull.z)))) ?_;refine J.persist hbg14 (fun I18 hle17 hbg14i=>?_);have hps:=hps.mono hle17;have hysq:=hysq.mono hle17;refine J.z (FU zL yV (yZ.at 3 rfl)) ?_;refine J.op rfl (BZ 1 yV (AL.c (AL.c (AL.c (AL.c (AL.c AL.z))))) (AU.s AU.z) ?_);refine J.ns (Cj.ret ?_);refine Ej.a1J (Keeps.d (Keeps.d (Keeps.d (Keeps.d Keeps.n)))) rfl rfl rfl (yZ.at 1 rfl) zL yV rfl ?_;exact⟨⟨⟨q.k,q.i,q.r,q.t,q.ps.app ((⟨1,[97,110,121],[61],[],.nil⟩:Cq.Qn).push .nil)⟩,_,rfl,⟨some ⟨bg14,0,none⟩,cg15,rfl,PS.snoc hysl hysq (.inl rfl) hbg14i⟩,by simp only[Cq.Qn.size,Cq.Qs.b0s,Cq.Qn.push,Cq.Qs.size];omega,by simp only[Cq.Qn.wide,Cq.Qs.b1j,Cq.Qn.push,Cq.Qs.wide,List.length_cons,List.length_nil];omega⟩,rfl⟩
  refine zK (fun hc19 hc19p=>?_) (fun hc19 hc19p=>?_)
  ·refine Cj.region (J.z (CV (off':=3) tU32 AV) ?_);refine J.op rfl (BZ 2 AV (AL.s (AL.s (AL.s (AL.c AL.z)))) (AU.s (AU.s AU.z)) ?_);refine J.nb (Cj.sr (J.z (FU zL yV (yZ.at 2 rfl)) ?_));refine J.op rfl (BZ 0 yV (AL.c (AL.c (AL.c (AL.c (AL.c AL.z))))) AU.z ?_);refine J.ns (Cj.ret ?_);refine Ej.a1J (Keeps.d (Keeps.d (Keeps.d Keeps.n))) rfl rfl rfl (yZ.at 0 rfl) zL yV rfl ?_;exact⟨⟨⟨q.k,q.i,q.r,[109,111,114,101],q.ps⟩,_,rfl,⟨p,c,rfl,hps⟩,by simp only[Cq.Qn.size];omega,by simp only[Cq.Qn.wide,List.length_cons,List.length_nil];omega⟩,rfl⟩
  refine Cj.kb (Cj.sr (J.z (FU zL yV (yZ.at 2 rfl)) ?_));refine J.op rfl (BZ 0 yV (AL.c (AL.c (AL.c (AL.c (AL.c AL.z))))) AU.z ?_);refine J.ns (Cj.ret ?_);refine Ej.a1J (Keeps.d (Keeps.d (Keeps.d Keeps.n))) rfl rfl rfl (yZ.at 0 rfl) zL yV rfl ?_;exact⟨⟨⟨q.k,q.i,q.r,q.t,q.ps⟩,_,rfl,⟨p,c,rfl,hps⟩,by simp only[Cq.Qn.size];omega,by simp only[Cq.Qn.wide];omega⟩,rfl⟩
 refine FM (fun hg20=>?_) (fun hg20=>?_)
 ·have hln:q.ps.len=2:=by have h:=hg20;simp at h;omega
  refine zK (fun hc21 hc21p=>?_) (fun hc21 hc21p=>?_)
  ·obtain⟨qa,qb,htw⟩:=Cq.Qs.b2h hln
   change q.Two qa qb at htw
   have hsz2:=htw.size;have hsz3:=htw.sizes;obtain⟨bl,off,cs',TT,fr,pa,ca,pb,cb,rfl,hbl,hca,hcb,hkb,hpa,hpb⟩:=hps.KO htw;have hten:=c4W hca hcb;refine yU 6 ?_;rcases(show Cq.a6x y 2=0∨Cq.a6x y 2=1 by omega)with hk0|hk0
   ·skip
    refine yU 1 ?_;refine J.ev 24 (i64 0) rfl (by rw[hy2.1,hk0];rfl) ?_;refine yU 5 ?_;refine J.op rfl (QK rfl rfl rfl BP yV ?_);intro b22 hb22;refine J.z (CV (off':=4) tU32 DZ) ?_;refine J.z (DF QS (yZ.at 3 rfl)) ?_;refine J.eqv 27 rfl (show _= .slice (some ⟨bl,off,none⟩) 2 c from(by rw[hln])) ?_;refine J.pull (Pull.s (Pull.s (Pull.s Pull.z))) ?_;refine J.pull (Pull.s (Pull.s (Pull.s Pull.z))) ?_;refine J.pull (Pull.s (Pull.s (Pull.s Pull.z))) ?_;refine J.op rfl (AQ (by':=79) (n:=0) (g:=some (b22,0,[])) (xs:=[]) [_,_,_] rfl rfl rfl rfl rfl BP (.inr ⟨_,BP⟩) (by kernel_rfl) yV BN rfl ⟨hb22,rfl,rfl⟩ rfl (Src.slice (yZ.LK hbl) hten rfl rfl) (by omega) ?_);intro g23 hg23;obtain⟨bg24,cg25,sp26,rfl,hbg24⟩:=hg23.some (by omega);refine J.ev 28 (.slice (some ⟨bg24,0,none⟩) 2 cg25) rfl rfl ?_;refine yU 5 ?_;refine Cj.EX [0,1,2,3] [] 17 (by kernel_rfl) ?_;have hbl_5:=hbl;refine JA.fix AO (fun fx27=>?_);refine JA.tk 0 rfl fx27 (CV (off':=4) tU32 DZ) ?_;refine JA.tk 1 rfl fx27 (DF QS (yZ.atC 2 rfl)) ?_;refine JA.tk 2 rfl fx27 qq2 ?_;refine JA.tk 3 rfl fx27 (CV (off':=4) tU32 DZ) ?_;refine JA.tk 4 rfl fx27 (DF QS (yZ.atC 2 rfl)) ?_;refine JA.tk 5 rfl fx27 qq2 ?_;refine JA.tk 6 rfl fx27 (CY (off':=0) rfl rfl rfl BP yV (by decide) (by decide) (by decide)) ?_;refine JA.tk 7 rfl fx27 (FU zL yV (yZ.atC 3 rfl)) ?_;refine JA.tk 8 rfl fx27 (EU (off':=0) rfl rfl rfl a6V DX (by decide) (by decide) (by decide)) ?_;refine JA.tk 9 rfl fx27 (DF OG (yZ.atC 1 rfl)) ?_;refine JA.tk 10 rfl fx27 (RG rfl rfl rfl (by decide) (IU htx)) ?_;refine JA.tk 11 rfl fx27 (EU (off':=1) rfl rfl rfl a6V DX (by decide) (by decide) (by decide)) ?_;refine JA.tk 12 rfl fx27 (DF OG (yZ.atC 1 rfl)) ?_;refine JA.tk 13 rfl fx27 (RG rfl rfl rfl (by decide) (IU hty)) ?_;refine JA.tk 14 rfl fx27 (a2I (zs:=[(.int .i64 0),(.int .i64 0)]) rfl rfl Tryz.zeroValue24 rfl a6V DX rfl) ?_;refine zO 15 rfl (zM (H1:=[]) rfl rfl rfl rfl rfl (ih qa hsz2.1 pa ca (x.tdiv 9) (y.tdiv 2) _ hpa (by omega) htx hty) ?_ (fun _ _ _ _ h=>by obtain⟨⟨_,_,h,_⟩,_⟩:=h;cases h) (fun _ _ h=>by obtain⟨⟨_,_,h,_⟩,_⟩:=h;cases h));intro v28 I29 H30 hle31 hp32;have hbl:=hle31 _ _ hbl;have hpa:=hpa.mono hle31;have hpb:=hpb.mono hle31;obtain⟨⟨q2,v28x,hv28,⟨p2,c2,rfl,hps2⟩,hz2,hw2⟩,rfl⟩:=hp32;cases hv28;refine⟨⟨(Le.trans (Le.refl _) hle31),(HSub.c 0 rfl (HSub.c 1 rfl (HSub.c 2 rfl (HSub.c 3 rfl HSub.n)))),CSub.n⟩,?_⟩;refine JA.fix AO (fun fx33=>?_);refine JA.tk 16 rfl fx33 (CY (off':=0) rfl rfl rfl BP yV (by decide) (by decide) (by decide)) ?_;refine JA.last 17 (by kernel_rfl) rfl rfl rfl (BZ 3 yV (AL.c (AL.c (AL.c (AL.c (AL.c AL.z))))) (AU.s (AU.s (AU.s AU.z))) ?_);refine yU 4 ?_;refine J.pull (Pull.s (Pull.s (Pull.s Pull.z))) ?_;refine J.persist hbg24 (fun I35 hle34 hbg24i=>?_);have hbl:=hle34 _ _ hbl;have hpa:=hpa.mono hle34;have hpb:=hpb.mono hle34;have hps2:=hps2.mono hle34;refine J.z (FU zL yV (yZ.at 2 rfl)) ?_;refine J.op rfl (BZ 0 yV (AL.c (AL.c (AL.c (AL.c (AL.c AL.z))))) AU.z ?_);refine J.ns (Cj.rs ?_);refine Ej.a1J (Keeps.d (Keeps.d (Keeps.d Keeps.n))) rfl rfl rfl (yZ.at 0 rfl) zL yV rfl ?_;exact⟨⟨⟨q.k,q.i,q.r,q.t,q2.push (qb.push .nil)⟩,_,rfl,⟨some ⟨bg24,0,none⟩,cg25,rfl,PS.twoS hps2 hpb hbg24i⟩,by simp only[Cq.Qn.size,Cq.Qn.wide,Cq.Qn.push,Cq.Qs.size]at *;omega,by simp only[Cq.Qn.size,Cq.Qn.wide,Cq.Qn.push,Cq.Qs.wide]at *;omega⟩,rfl⟩
   skip
   refine yU 1 ?_;refine J.ev 24 (i64 1) rfl (by rw[hy2.1,hk0];rfl) ?_;refine yU 5 ?_;refine J.op rfl (QK rfl rfl rfl BP yV ?_);intro b36 hb36;refine J.z (CV (off':=4) tU32 DZ) ?_;refine J.z (DF QS (yZ.at 3 rfl)) ?_;refine J.eqv 27 rfl (show _= .slice (some ⟨bl,off,none⟩) 2 c from(by rw[hln])) ?_;refine J.pull (Pull.s (Pull.s (Pull.s Pull.z))) ?_;refine J.pull (Pull.s (Pull.s (Pull.s Pull.z))) ?_;refine J.pull (Pull.s (Pull.s (Pull.s Pull.z))) ?_;refine J.op rfl (AQ (by':=79) (n:=0) (g:=some (b36,0,[])) (xs:=[]) [_,_,_] rfl rfl rfl rfl rfl BP (.inr ⟨_,BP⟩) (by kernel_rfl) yV BN rfl ⟨hb36,rfl,rfl⟩ rfl (Src.slice (yZ.LK hbl) hten rfl rfl) (by omega) ?_);intro g37 hg37;obtain⟨bg38,cg39,sp40,rfl,hbg38⟩:=hg37.some (by omega);refine J.ev 28 (.slice (some ⟨bg38,0,none⟩) 2 cg39) rfl rfl ?_;refine yU 5 ?_;refine Cj.EX [0,1,2,3] [] 17 (by kernel_rfl) ?_;have hbl_5:=hbl;refine JA.fix AO (fun fx41=>?_);refine JA.tk 0 rfl fx41 (CV (off':=4) tU32 DZ) ?_;refine JA.tk 1 rfl fx41 (DF QS (yZ.atC 2 rfl)) ?_;refine JA.tk 2 rfl fx41 qq2 ?_;refine JA.tk 3 rfl fx41 (CV (off':=4) tU32 DZ) ?_;refine JA.tk 4 rfl fx41 (DF QS (yZ.atC 2 rfl)) ?_;refine JA.tk 5 rfl fx41 qq2 ?_;refine JA.tk 6 rfl fx41 (CY (off':=5) rfl rfl rfl BP yV (by decide) (by decide) (by decide)) ?_;refine JA.tk 7 rfl fx41 (FU zL yV (yZ.atC 3 rfl)) ?_;refine JA.tk 8 rfl fx41 (EU (off':=0) rfl rfl rfl a6V DX (by decide) (by decide) (by decide)) ?_;refine JA.tk 9 rfl fx41 (DF OG (yZ.atC 1 rfl)) ?_;refine JA.tk 10 rfl fx41 (RG rfl rfl rfl (by decide) (IU htx)) ?_;refine JA.tk 11 rfl fx41 (EU (off':=1) rfl rfl rfl a6V DX (by decide) (by decide) (by decide)) ?_;refine JA.tk 12 rfl fx41 (DF OG (yZ.atC 1 rfl)) ?_;refine JA.tk 13 rfl fx41 (RG rfl rfl rfl (by decide) (IU hty)) ?_;refine JA.tk 14 rfl fx41 (a2I (zs:=[(.int .i64 0),(.int .i64 0)]) rfl rfl Tryz.zeroValue24 rfl a6V DX rfl) ?_;refine zO 15 rfl (zM (H1:=[]) rfl rfl rfl rfl rfl (ih qb hsz2.2 pb cb (x.tdiv 9) (y.tdiv 2) _ hpb (by omega) htx hty) ?_ (fun _ _ _ _ h=>by obtain⟨⟨_,_,h,_⟩,_⟩:=h;cases h) (fun _ _ h=>by obtain⟨⟨_,_,h,_⟩,_⟩:=h;cases h));intro v42 I43 H44 hle45 hp46;have hbl:=hle45 _ _ hbl;have hpa:=hpa.mono hle45;have hpb:=hpb.mono hle45;obtain⟨⟨q2,v42x,hv42,⟨p2,c2,rfl,hps2⟩,hz2,hw2⟩,rfl⟩:=hp46;cases hv42;refine⟨⟨(Le.trans (Le.refl _) hle45),(HSub.c 0 rfl (HSub.c 1 rfl (HSub.c 2 rfl (HSub.c 3 rfl HSub.n)))),CSub.n⟩,?_⟩;refine JA.fix AO (fun fx47=>?_);refine JA.tk 16 rfl fx47 (CY (off':=5) rfl rfl rfl BP yV (by decide) (by decide) (by decide)) ?_;refine JA.last 17 (by kernel_rfl) rfl rfl rfl (BZ 3 yV (AL.s (AL.s (AL.s (AL.s (AL.s (AL.c (AL.c (AL.c (AL.c (AL.c AL.z)))))))))) (AU.s (AU.s (AU.s AU.z))) ?_);refine yU 4 ?_;refine J.pull (Pull.s (Pull.s (Pull.s Pull.z))) ?_;refine J.persist hbg38 (fun I49 hle48 hbg38i=>?_);have hbl:=hle48 _ _ hbl;have hpa:=hpa.mono hle48;have hpb:=hpb.mono hle48;have hps2:=hps2.mono hle48;refine J.z (FU zL yV (yZ.at 2 rfl)) ?_;refine J.op rfl (BZ 0 yV (AL.c (AL.c (AL.c (AL.c (AL.c AL.z))))) AU.z ?_);refine J.ns (Cj.rs ?_);refine Ej.a1J (Keeps.d (Keeps.d (Keeps.d Keeps.n))) rfl rfl rfl (yZ.at 0 rfl) zL yV rfl ?_;exact⟨⟨⟨q.k,q.i,q.r,q.t,qa.push (q2.push .nil)⟩,_,rfl,⟨some ⟨bg38,0,none⟩,cg39,rfl,PS.twoS hpa hps2 hbg38i⟩,by simp only[Cq.Qn.size,Cq.Qn.wide,Cq.Qn.push,Cq.Qs.size]at *;omega,by simp only[Cq.Qn.size,Cq.Qn.wide,Cq.Qn.push,Cq.Qs.wide]at *;omega⟩,rfl⟩
  refine yU 1 ?_;exact hcut () _ _ _ trivial ⟨rfl,rfl,rfl,rfl,trivial⟩ rfl rfl
 refine yU 7 ?_;exact hcut () _ _ _ trivial ⟨rfl,rfl,rfl,rfl,trivial⟩ rfl rfl
theorem b6d q:a6k q:=by
  suffices ∀n (q:Cq.Qn),q.size<n→a6k q from this _ q (Nat.lt_succ_self _)
  intro n
  induction n with
  |zero=>intro q h;omega
  |succ n ih=>intro q h;exact b0m q fun q' h'=>ih q' (by omega)
end Go.Proofs.YtekmeaoblpfnpaaGreatDoor
end
namespace Go.Stab
variable {α:Type} {lt:α→α→Bool}
structure TM (lt:α→α→Bool):Prop where
  neg:∀x y z,lt x z=true→lt x y=true∨lt y z=true
  asy:∀x y,lt x y=true→lt y x=false
def TL (lt : α → α → Bool) (p q : α × Nat) : Prop := lt p.1 q.1 = true ∨ (lt q.1 p.1 = false ∧ p.2 < q.2)
theorem TL.irr(h:TM lt){p}(g:TL lt p p):False:=by
  rcases g with g|⟨_,g⟩
  · have:=h.asy _ _ g;rw[g]at this;cases this
  omega
theorem TL.tr(h:TM lt){p q r}(g:TL lt p q)(k:TL lt q r):TL lt p r:=by
  rcases g with g|⟨g1,g2⟩
  · have h1:=h.neg p.1 r.1 q.1 g;rcases h1 with h1|h1
    · exact .inl h1
    rcases k with k|⟨k1,_⟩
    · have:=h.asy _ _ k;rw[h1]at this;cases this
    rw[h1]at k1;cases k1
  rcases k with k|⟨k1,k2⟩
  · rcases h.neg q.1 p.1 r.1 k with h1|h1
    · rw[h1]at g1;cases g1
    exact .inl h1
  refine .inr ⟨?_,by omega⟩;cases hr:lt r.1 p.1 with
  |false=>rfl
  | true=>
    rcases h.neg r.1 q.1 p.1 hr with h1|h1
    · rw[h1]at k1;cases k1
    rw[h1]at g1;cases g1
abbrev BK (lt : α → α → Bool) (l : List (α × Nat)) : Prop := l.Pairwise (TL lt)
theorem BK.uniq(h:TM lt):∀{l l':List (α×Nat)},BK lt l→BK lt l'→l.Perm l'→l=l'
  |[],_,_,_,hp=>(List.Perm.nil_eq hp)
  |a::l,[],_,_,hp=>by have:=hp.length_eq;simp at this
  | a::l,b::l',h1,h2,hp=>by
    have h1':=List.pairwise_cons.1 h1;have h2':=List.pairwise_cons.1 h2;have hab:a=b:=by
      have ha:a∈b::l':=hp.mem_iff.1 (.head _);have hb:b∈a::l:=hp.mem_iff.2 (.head _);rcases List.mem_cons.1 ha with g|g
      · exact g
      rcases List.mem_cons.1 hb with k|k
      · exact k.symm
      exact(TL.irr h (TL.tr h (h1'.1 _ k) (h2'.1 _ g))).elim
    subst hab;rw[BK.uniq h h1'.2 h2'.2 ((List.perm_cons a).1 hp)]
def Stab (lt:α→α→Bool) (l r:List α):Prop:=∃t:List (α×Nat),t.map (·.1)=r∧t.Perm l.zipIdx∧BK lt t
theorem Stab.uniq(h:TM lt){l r r'}:Stab lt l r→Stab lt l r'→r=r':=by
  rintro⟨t,rfl,hp,hs⟩ ⟨t',rfl,hp',hs'⟩;rw[BK.uniq h hs hs' (hp.trans hp'.symm)]
theorem Stab.perm{l r}(h:Stab lt l r):r.Perm l:=by
  obtain⟨t,rfl,hp,_⟩:=h;have:=hp.map (·.1)
  rwa [List.zipIdx_map_fst]at this
def Low (l r:List (α×Nat)):Prop:=∀x∈l,∀y∈r,x.2<y.2
theorem TL.le{p q}(hi:p.2<q.2)(h:lt q.1 p.1=false):TL lt p q:= .inr ⟨h,hi⟩
theorem BK.ins{l r x}(h:TM lt)(hs:BK lt (l++r))(hi:∀y∈l++r,y.2<x.2)(hl:∀y,l.getLast?=some y→lt x.1 y.1=false)(hr:∀y∈r,lt x.1 y.1=true):BK lt (l++x::r):=by
  have hs':=List.pairwise_append.1 hs;refine List.pairwise_append.2 ⟨hs'.1,List.pairwise_cons.2 ⟨fun y hy=> .inl (hr y hy),hs'.2.1⟩,fun a ha b hb=>?_⟩;rcases List.mem_cons.1 hb with g|g
  · subst g;cases hg:l.getLast? with
    |none=>rw[List.getLast?_eq_none_iff.1 hg]at ha;cases ha
    | some y=>
      have h1:TL lt y b:=TL.le (hi y (List.mem_append_left _ (List.mem_of_getLast? hg))) (hl y hg);obtain⟨l',rfl⟩:∃l',l=l'++[y]:=by
        obtain⟨hn,he⟩:=List.getLast?_eq_some_iff.1 hg;exact⟨hn,he⟩
      rcases List.mem_append.1 ha with k|k
      · exact TL.tr h ((List.pairwise_append.1 hs'.1).2.2 a k y (.head _)) h1
      rw[List.mem_singleton.1 k];exact h1
  exact hs'.2.2 a ha b g
theorem BK.halves{L1 L2 R1 R2 M1 M2}(h:TM lt)(hL:BK lt (L1++L2))(hR:BK lt (R1++R2))(h1:∀x y,L1.getLast?=some x→R2.head?=some y→TL lt x y)(h2:∀x y,R1.getLast?=some x→L2.head?=some y→TL lt x y)
    (p1:M1.Perm (L1++R1))(p2:M2.Perm (L2++R2))(s1:BK lt M1)(s2:BK lt M2):BK lt (M1++M2):=by
  have cross:∀{A B C D:List (α×Nat)},BK lt (A++B)→BK lt (C++D)→(∀x y,A.getLast?=some x→D.head?=some y→TL lt x y)→∀x∈A,∀y∈D,TL lt x y:=by
    intro A B C D hAB hCD hc x hx y hy;have hA:=(List.pairwise_append.1 hAB).1;have hD:=(List.pairwise_append.1 hCD).2.1;cases hg:A.getLast? with
    |none=>rw[List.getLast?_eq_none_iff.1 hg]at hx;cases hx
    | some a=>
      obtain⟨A',rfl⟩:=List.getLast?_eq_some_iff.1 hg;cases D with
      |nil=>cases hy
      | cons d D'=>
        have had:=hc a d hg rfl;have hxd:TL lt x d:=by
          rcases List.mem_append.1 hx with k|k
          · exact TL.tr h ((List.pairwise_append.1 hA).2.2 x k a (.head _)) had
          rw[List.mem_singleton.1 k];exact had
        rcases List.mem_cons.1 hy with k|k
        · rw[k];exact hxd
        exact TL.tr h hxd ((List.pairwise_cons.1 hD).1 y k)
  have hL':=List.pairwise_append.1 hL;have hR':=List.pairwise_append.1 hR;refine List.pairwise_append.2 ⟨s1,s2,fun x hx y hy=>?_⟩;rcases List.mem_append.1 (p1.mem_iff.1 hx)with kx|kx<;>rcases List.mem_append.1 (p2.mem_iff.1 hy)with ky|ky
  · exact hL'.2.2 x kx y ky
  · exact cross hL hR h1 x kx y ky
  · exact cross hR hL h2 x kx y ky
  exact hR'.2.2 x kx y ky
theorem BK.mid{l r x}(h:TM lt)(hs:BK lt (l++r))(hl:∀y,l.getLast?=some y→TL lt y x)(hr:∀y,r.head?=some y→TL lt x y):BK lt (l++x::r):=by
  have hs':=List.pairwise_append.1 hs;have hxr:∀y∈r,TL lt x y:=by
    intro y hy;cases r with
    |nil=>cases hy
    | cons d r'=>
      rcases List.mem_cons.1 hy with k|k
      · rw[k];exact hr d rfl
      exact TL.tr h (hr d rfl) ((List.pairwise_cons.1 hs'.2.1).1 y k)
  refine List.pairwise_append.2 ⟨hs'.1,List.pairwise_cons.2 ⟨hxr,hs'.2.1⟩,fun a ha b hb=>?_⟩;have hax:TL lt a x:=by
    cases hg:l.getLast? with
    |none=>rw[List.getLast?_eq_none_iff.1 hg]at ha;cases ha
    | some y=>
      obtain⟨l',rfl⟩:=List.getLast?_eq_some_iff.1 hg;rcases List.mem_append.1 ha with k|k
      · exact TL.tr h ((List.pairwise_append.1 hs'.1).2.2 a k y (.head _)) (hl y hg)
      rw[List.mem_singleton.1 k];exact hl y hg
  rcases List.mem_cons.1 hb with g|g
  · rw[g];exact hax
  exact TL.tr h hax (hxr b g)
theorem Low.mono{l r l' r':List (α×Nat)}(h:Low l r)(h1:∀x∈l',x∈l)(h2:∀x∈r',x∈r):Low l' r':=fun x hx y hy=>h x (h1 x hx) y (h2 y hy)
structure Pos (lt:α→α→Bool) (x:α) (out:List α) (j k:Nat):Prop where
  le:k≤j
  bef:∀y,(out.take k).getLast?=some y→lt x y=false
  aft:∀y∈(out.take j).drop k,lt x y=true
theorem Pos.nil x out:Pos lt x out 0 0:=⟨Nat.le_refl _,fun y h=>by simp at h,fun y h=>by simp at h⟩
theorem Pos.next{x y out j k}(h:Pos lt x out j k)(hy:out[j]?=some y):Pos lt x out (j+1) (if lt x y=true then k else j+1):=by
  split
  · rename_i hl
    refine⟨Nat.le_succ_of_le h.le,h.bef,fun z hz=>?_⟩;rw[List.take_add_one,hy,List.drop_append_of_le_length (by
      have:=(List.getElem?_eq_some_iff.1 hy).1;rw[List.length_take];have:=h.le;omega)]at hz
    rcases List.mem_append.1 hz with g|g
    · exact h.aft z g
    rw[show z=y by simpa using g];exact hl
  rename_i hl
  refine⟨Nat.le_refl _,fun z hz=>?_,fun z hz=>?_⟩
  · rw[List.take_add_one,hy]at hz;rw[show z=y by simpa using hz.symm];simpa using hl
  rw[List.drop_eq_nil_of_le (by rw[List.length_take];omega)]at hz;cases hz
theorem Stab.nil:Stab lt ([]:List α) []:=⟨[],rfl,.refl _,.nil⟩
theorem c3Q{d:List α}{y}(h:y∈d.zipIdx):y.2<d.length:=by
  have:=List.snd_lt_add_of_mem_zipIdx h;omega
theorem Stab.ins{d out x k}(h:TM lt)(hs:Stab lt d out)(hp:Pos lt x out out.length k):Stab lt (d++[x]) (out.take k++x::out.drop k):=by
  obtain⟨t,rfl,hp1,hs1⟩:=hs;refine⟨t.take k++(x,d.length)::t.drop k,by simp,?_,?_⟩
  · rw[List.zipIdx_append];refine List.perm_middle.trans ?_;rw[List.take_append_drop];refine(List.Perm.cons _ hp1).trans ?_;simpa using(List.perm_append_comm (l₁:=[(x,d.length)]) (l₂:=d.zipIdx))
  refine BK.ins h (by rw[List.take_append_drop];exact hs1) (fun y hy=>?_) (fun y hy=>?_) (fun y hy=>?_)
  · rw[List.take_append_drop]at hy;exact c3Q (hp1.mem_iff.1 hy)
  · refine hp.bef y.1 ?_;rw[←List.map_take,List.getLast?_map,hy];rfl
  refine hp.aft y.1 ?_;rw[List.take_of_length_le (Nat.le_refl _),←List.map_drop];exact List.mem_map_of_mem hy
section
variable {τ:Type}
theorem VR{A B:List τ}{x:τ}{n:Nat}(h:n=A.length):(A++x::B)[n]?=some x:=by subst h;simp
theorem set_mid{A B:List τ}{x y:τ}{n:Nat}(h:n=A.length):(A++x::B).set n y=A++y::B:=by subst h;simp
theorem a5b{l:List τ}{k}(h:k<l.length):∃A x B,l=A++x::B∧A.length=k:=⟨l.take k,l[k],l.drop (k+1),by rw[←List.drop_eq_getElem_cons h,List.take_append_drop],by rw[List.length_take];omega⟩
theorem VK{l:List τ}{k}(h:k≤l.length):∃A B,l=A++B∧A.length=k:=⟨l.take k,l.drop k,(List.take_append_drop k l).symm,by rw[List.length_take];omega⟩
def YV (A X M Y B:List τ) (k:Nat):List τ:=A++(Y.take k++(X.drop k++(M++(X.take k++(Y.drop k++B)))))
theorem c3K(A X M Y B:List τ) k (h:X.length=Y.length):(YV A X M Y B k).length=A.length+X.length+M.length+Y.length+B.length:=by
  unfold YV;simp only[List.length_append,List.length_take,List.length_drop];omega
theorem c2b{A X M Y B:List τ}{k}(hk:k<X.length)(h:X.length=Y.length):∃x y,(YV A X M Y B k)[A.length+k]?=some x∧(YV A X M Y B k)[A.length+X.length+M.length+k]?=some y∧
    ((YV A X M Y B k).set (A.length+k) y).set (A.length+X.length+M.length+k) x=YV A X M Y B (k+1):=by
  obtain⟨X1,x,X2,rfl,h1⟩:=a5b hk;obtain⟨Y1,y,Y2,rfl,h2⟩:=a5b (l:=Y) (k:=k) (by omega);have e:YV A (X1++x::X2) M (Y1++y::Y2) B k=(A++Y1)++x::(X2++M++X1++y::(Y2++B)):=by
    unfold YV;rw[List.take_left' h1,List.take_left' h2,List.drop_left' h1,List.drop_left' h2];simp
  have e2:YV A (X1++x::X2) M (Y1++y::Y2) B (k+1)=((A++Y1)++y::(X2++M++X1))++x::(Y2++B):=by
    unfold YV;rw[List.append_cons X1,List.append_cons Y1,List.take_left' (l₁:=Y1++[y]) (by simp[h2]),List.take_left' (l₁:=X1++[x]) (by simp[h1]),List.drop_left' (l₁:=X1++[x]) (by simp[h1]),List.drop_left' (l₁:=Y1++[y]) (by simp[h2])];simp
  have hl:X2.length=Y2.length:=by simp at h;omega
  refine⟨x,y,?_,?_,?_⟩
  · rw[e];exact VR (by simp[h2])
  · rw[e,show(A++Y1)++x::(X2++M++X1++y::(Y2++B))=((A++Y1)++x::(X2++M++X1))++y::(Y2++B) by simp];exact VR (by simp;omega)
  rw[e,e2,set_mid (by simp[h2]),show(A++Y1)++y::(X2++M++X1++y::(Y2++B))=((A++Y1)++y::(X2++M++X1))++y::(Y2++B) by simp];exact set_mid (by simp;omega)
theorem c0V(A X M Y B:List τ):YV A X M Y B 0=A++(X++(M++(Y++B))):=by simp[YV]
theorem c3O{A X M Y B:List τ}{n}(h1:X.length=n)(h2:Y.length=n):YV A X M Y B n=A++(Y++(M++(X++B))):=by
  unfold YV;rw[List.take_of_length_le (by omega),List.take_of_length_le (by omega),List.drop_of_length_le (by omega),List.drop_of_length_le (by omega)];simp
def UN (A P:List τ) (x:τ) (Q R:List τ):List τ:=A++(P++x::(Q++R))
theorem b1G(A P:List τ)(x:τ)(Q R:List τ):(UN A P x Q R).length=A.length+P.length+1+Q.length+R.length:=by
  unfold UN;simp only[List.length_append,List.length_cons];omega
theorem b4A{A P:List τ}{x Q R}{j:Nat}(h:j=A.length+P.length):(UN A P x Q R)[j]?=some x:=by
  unfold UN;rw[←List.append_assoc];exact VR (by simp[h])
theorem a9c{A P:List τ}{x y:τ}{Q R}{j:Nat}(h:j=A.length+P.length):(UN A (P++[y]) x Q R)[j]?=some y∧((UN A (P++[y]) x Q R).set (j+1) y).set j x=UN A P x (y::Q) R:=by
  unfold UN;rw[show A++((P++[y])++x::(Q++R))=(A++P)++y::x::(Q++R) by simp];refine⟨VR (by simp[h]),?_⟩;rw[show(A++P)++y::x::(Q++R)=((A++P)++[y])++x::(Q++R) by simp,set_mid (by simp[h,Nat.add_assoc]),show((A++P)++[y])++y::(Q++R)=(A++P)++y::y::(Q++R) by simp,set_mid (by simp[h])];simp
end
section
variable {α:Type} {lt:α→α→Bool}
def Tags (l:List (α×Nat)):Prop:=l.Pairwise fun x y=>x.2<y.2
theorem Tags.low{l r:List (α×Nat)}(h:Tags (l++r)):Low l r:=(List.pairwise_append.1 h).2.2
theorem Low.perm{l r l' r':List (α×Nat)}(h:Low l r)(h1:l'.Perm l)(h2:r'.Perm r):Low l' r':=fun x hx y hy=>h x (h1.mem_iff.1 hx) y (h2.mem_iff.1 hy)
structure YI (lt:α→α→Bool) (M:List (α×Nat)) (k:Nat) (P:List (α×Nat)) (x:α×Nat) (Q:List (α×Nat)):Prop where
  at':M[k]?=some x
  perm:(P++Q).Perm (M.take k)
  GY:BK lt (P++Q)
  up:∀y∈Q,lt x.1 y.1=true
theorem YI.start{M S k x}(h:M[k]?=some x)(hp:S.Perm (M.take k))(hs:BK lt S):YI lt M k S x []:=⟨h,by simpa using hp,by simpa using hs,fun y hy=>by cases hy⟩
theorem YI.down{M P Q k x y}(h:YI lt M k (P++[y]) x Q)(hl:lt x.1 y.1=true):YI lt M k P x (y::Q):=
  ⟨h.at',by have:=h.perm;simpa using this,by have:=h.GY;simpa using this,fun z hz=>(List.mem_cons.1 hz).elim (fun e=>by rw[e];exact hl) (h.up z)⟩
theorem YI.done(hsw:TM lt){M P Q k x}(h:YI lt M k P x Q)(ht:Tags M)(hl:∀y,P.getLast?=some y→lt x.1 y.1=false):(P++x::Q).Perm (M.take (k+1))∧BK lt (P++x::Q):=by
  have hlt:=(List.getElem?_eq_some_iff.1 h.at').1;have he:M.take (k+1)=M.take k++[x]:=by rw[List.take_add_one,h.at'];rfl
  refine⟨?_,BK.ins hsw h.GY (fun y hy=>?_) hl h.up⟩
  · rw[he];refine List.perm_middle.trans ?_;exact(List.Perm.cons x h.perm).trans (List.perm_append_comm (l₁:=[x]))
  have hy':y∈M.take k:=h.perm.mem_iff.1 hy;have hM:Tags (M.take (k+1)):=ht.sublist (List.take_sublist _ _);rw[he]at hM;exact hM.low y hy' x (by simp)
theorem BK.merge{L1 L2 R1 R2 M1 M2}(h:TM lt)(hL:BK lt (L1++L2))(hR:BK lt (R1++R2))(hlow:Low (L1++L2) (R1++R2))(h1:∀x y,L1.getLast?=some x→R2.head?=some y→lt y.1 x.1=false)(h2:∀x y,R1.getLast?=some x→L2.head?=some y→lt x.1 y.1=true)
    (p1:M1.Perm (L1++R1))(p2:M2.Perm (L2++R2))(s1:BK lt M1)(s2:BK lt M2):BK lt (M1++M2):=
  BK.halves h hL hR (fun x y hx hy=>TL.le (hlow x (List.mem_append_left _ (List.mem_of_getLast? hx)) y (List.mem_append_right _ (List.mem_of_mem_head? hy))) (h1 x y hx hy)) (fun x y hx hy=> .inl (h2 x y hx hy)) p1 p2 s1 s2
theorem a1z{L1 L2 R1 R2 M1 M2:List (α×Nat)}(p1:M1.Perm (L1++R1))(p2:M2.Perm (L2++R2)):(M1++M2).Perm ((L1++L2)++(R1++R2)):=by
  refine(p1.append p2).trans ?_;rw[List.append_assoc,List.append_assoc];refine List.Perm.append_left L1 ?_;rw[←List.append_assoc,←List.append_assoc];exact List.Perm.append_right R2 List.perm_append_comm
theorem BK.c1n{x R1 R2}(h:TM lt)(hR:BK lt (R1++R2))(hlow:Low [x] (R1++R2))(h1:∀y,R1.getLast?=some y→lt y.1 x.1=true)(h2:∀y,R2.head?=some y→lt y.1 x.1=false):BK lt (R1++x::R2):=
  BK.mid h hR (fun y hy=> .inl (h1 y hy)) (fun y hy=>TL.le (hlow x (.head _) y (List.mem_append_right _ (List.mem_of_mem_head? hy))) (h2 y hy))
theorem BK.b6X{x L1 L2}(h:TM lt)(hL:BK lt (L1++L2))(hlow:Low (L1++L2) [x])(h1:∀y,L1.getLast?=some y→lt x.1 y.1=false)(h2:∀y,L2.head?=some y→lt x.1 y.1=true):BK lt (L1++x::L2):=
  BK.mid h hL (fun y hy=>TL.le (hlow y (List.mem_append_left _ (List.mem_of_getLast? hy)) x (.head _)) (h1 y hy)) (fun y hy=> .inl (h2 y hy))
structure Bk (lt:α→α→Bool) (D T:List (α×Nat)):Prop where
  perm:D.Perm T
  GY:BK lt D
theorem Bk.len{D T}(h:Bk lt D T):D.length=T.length:=h.perm.length_eq
inductive Full (lt:α→α→Bool) (z:Nat):List (α×Nat)→List (α×Nat)→Prop where
  |nil:Full lt z [] []
  |cons {D1 T1 D T:List (α×Nat)}:D1.length=z→Bk lt D1 T1→Full lt z D T→Full lt z (D1++D) (T1++T)
inductive Chunks (lt:α→α→Bool) (z:Nat):List (α×Nat)→List (α×Nat)→Prop where
  |last {D T:List (α×Nat)}:D.length≤z→Bk lt D T→Chunks lt z D T
  |cons {D1 T1 D T:List (α×Nat)}:D1.length=z→Bk lt D1 T1→Chunks lt z D T→Chunks lt z (D1++D) (T1++T)
theorem Full.snoc{z P TP D T}(h:Full lt z P TP)(hz:D.length=z)(hb:Bk lt D T):Full lt z (P++D) (TP++T):=by
  induction h with
  |nil=>have:=Full.cons hz hb Full.nil;simpa using this
  |cons h1 h2 _ ih=>rw[List.append_assoc,List.append_assoc];exact .cons h1 h2 ih
theorem Full.app{z P TP D T}(h:Full lt z P TP)(hc:Chunks lt z D T):Chunks lt z (P++D) (TP++T):=by
  induction h with
  |nil=>exact hc
  |cons h1 h2 _ ih=>rw[List.append_assoc,List.append_assoc];exact .cons h1 h2 ih
theorem Chunks.perm{z D T}(h:Chunks lt z D T):D.Perm T:=by
  induction h with
  |last _ h=>exact h.perm
  |cons _ h _ ih=>exact h.perm.append ih
theorem Full.perm{z D T}(h:Full lt z D T):D.Perm T:=by
  induction h with
  |nil=>exact .refl _
  |cons _ h _ ih=>exact h.perm.append ih
theorem Chunks.first{z D T}(h:Chunks lt z D T)(hz:z≤D.length):∃D1 T1 D' T',D=D1++D'∧T=T1++T'∧D1.length=z∧Bk lt D1 T1∧Chunks lt z D' T':=by
  cases h with
  |last h1 h2=>exact⟨D,T,[],[],by simp,by simp,by omega,h2,.last (Nat.zero_le _) ⟨.refl _,.nil⟩⟩
  |cons h1 h2 h3=>exact⟨_,_,_,_,rfl,rfl,h1,h2,h3⟩
theorem Chunks.all{z D T}(h:Chunks lt z D T)(hz:D.length≤z):Bk lt D T:=by
  induction h with
  |last _ h=>exact h
  | @cons D1 T1 D T h1 h2 h3 ih=>
    rw[List.length_append]at hz;have hD:D=[]:=List.length_eq_zero_iff.1 (by omega);have hT:T=[]:=List.length_eq_zero_iff.1 (by have:=h3.perm.length_eq;rw[hD]at this;simpa using this.symm);rw[hD,hT,List.append_nil,List.append_nil];exact h2
theorem Bk.low{D1 D2 T1 T2 T}(h1:Bk lt D1 T1)(h2:Bk lt D2 T2)(ht:Tags (T1++(T2++T))):Low D1 D2:=
  Low.perm (Low.mono ht.low (fun _ h=>h) (fun _ h=>List.mem_append_left _ h)) h1.perm h2.perm
theorem Tags.tl{T1 T:List (α×Nat)}(h:Tags (T1++T)):Tags T:=(List.pairwise_append.1 h).2.1
theorem Bk.cat{D1 D2 T1 T2 M}(h1:Bk lt D1 T1)(h2:Bk lt D2 T2)(hp:M.Perm (D1++D2))(hs:BK lt M):Bk lt M (T1++T2):=⟨hp.trans (h1.perm.append h2.perm),hs⟩
theorem c0H(l:List α) k:Tags (l.zipIdx k):=by
  induction l generalizing k with
  |nil=>exact .nil
  | cons a r ih=>
    rw[List.zipIdx_cons];refine List.pairwise_cons.2 ⟨fun y hy=>?_,ih _⟩;have:=List.le_snd_of_mem_zipIdx hy;dsimp only;omega
theorem Bk.c6m{l D}(h:Bk lt D l.zipIdx):Stab lt l (D.map (·.1)):=⟨D,rfl,h.perm,h.GY⟩
