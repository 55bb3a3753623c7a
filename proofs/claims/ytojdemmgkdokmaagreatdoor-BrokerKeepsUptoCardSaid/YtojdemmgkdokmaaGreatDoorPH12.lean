/-
  Own texts on the laws of the seat, joined: the logic, and contracts of functions. Conditions: none.
-/
import Derived.Test.YtojdemmgkdokmaaGreatDoorNmH
import Derived.Test.YtojdemmgkdokmaaGreatDoorPH11
set_option linter.all false
set_option maxRecDepth 100000
set_option maxHeartbeats 40000000
open Go.Sx.J renaming z -> aA,op -> aG,eqv -> dQ
open Go.Proofs.Tryz renaming prog -> aB,b0o -> eY
open Bool renaming noConfusion -> aC
open Go.Sx.zM renaming c -> aF,z -> aW,s -> dG
open Go.Sx.Keeps renaming d -> aH,r -> bY,k -> dN,n -> eG
open List renaming append_nil -> aI,length_map -> aJ,length_append -> aO,length_cons -> aP,mem_map -> aX,mem_append -> bJ,mem_singleton -> bK,length_eq_zero_iff -> bQ,length_take -> dH,map_append -> dJ,mem_append_right -> dM,mem_append_left -> dR,set_cons_zero -> dX,set_cons_succ -> dY,append_assoc -> eH,nodup_cons -> eX,replicate -> fA
open Go.Sx.Cj renaming region -> aK,block -> aS,ret -> aU,skip -> bC,cond -> bF,seq -> dS,exit -> eF,rounds -> fC
open Go.Sx.Ej renaming FN -> aN,seq -> aT,KH -> bI,keep -> bP,OI -> cZ,rounds -> dA,LC -> dB,QL -> dZ,pull -> fB
open Go.Lib renaming compact -> aQ
open Nat renaming le_refl -> aV,min_le_left -> bW,zero_le -> cO,lt_or_ge -> dD,le_of_ble_eq_true -> dP
open Eq renaming trans -> aY,symm -> bG
open List.Sublist renaming cons -> aZ,refl -> bT
open Go.Sx.AV renaming z -> bD,s -> bM
open Go.Sx.Enters renaming of -> bH
open Go.Sx.Rj renaming succ -> bU
open Go.Sx.yT renaming toPure -> bV
open Go.Sx.yR renaming TS -> bZ
open Go.Sx.Pure renaming of_same -> dF
open Go.Value renaming int -> dI
open Array renaming getElem?_eq_none -> dK
open Bk renaming Idn -> dL,a2e -> fE
open Go.Sx.GN renaming part -> dU,none -> fD
open Go.Sx.CG renaming none -> dV,one -> eP
open Go.Sx.Pull renaming z -> dW,s -> fG
open Go.Sx.JA renaming persist -> eU
open Ix renaming IW -> fF
namespace Bk
open Go.Lib in
theorem VE(d:Array Int)(hs:∀i j,i<j→j<d.size→d[i]! ≤d[j]!):∀m,m≤d.size→(compactUpTo d m).Pairwise (· <·)∧∀x,x∈compactUpTo d m↔∃j,j<m∧x=d[j]!
 |0,_=>⟨List.Pairwise.nil,fun x=>by simp[compactUpTo]⟩
 |m+1,hm=>by
  obtain⟨h1,h2⟩:=VE d hs m oM;rw[compactUpTo_succ]
  by_cases hk:keeps d m=true
  ·rw[zG hk];refine⟨List.pairwise_append.2 ⟨h1,List.pairwise_singleton _ _,fun a ha b hb=>?_⟩,fun x=>?_⟩
   ·rw[bK.1 hb];obtain⟨j,G,rfl⟩:=(h2 a).1 ha;have A:m=0∨d[m]! ≠d[m-1]! :=zB hk;have a0:=A.resolve_left oM;have h3:d[m-1]! ≤d[m]! :=hs _ _ oM oM;have h4:d[m-1]! <d[m]! :=oM;rcases dD j (m-1)with h|h
    ·have O:d[j]! ≤d[m-1]! :=hs _ _ h oM;omega
    have:j=m-1:=oM;rw[this];exact h4
   rw[bJ,h2,bK];constructor
   ·rintro(⟨j,G,rfl⟩|rfl)
    ·exact⟨j,oM,rfl⟩
    exact⟨m,oM,rfl⟩
   rintro⟨j,G,rfl⟩;rcases dD j m with h|h
   ·exact .inl ⟨j,h,rfl⟩
   have:j=m:=oM;exact .inr (by rw[this])
  rw[zF hk,aI];refine⟨h1,fun x=>(h2 x).trans ⟨fun⟨j,G,e⟩=>⟨j,oM,e⟩,fun⟨j,G,e⟩=>?_⟩⟩;rcases dD j m with h|h
  ·exact⟨j,h,e⟩
  have A:¬(m=0∨d[m]! ≠d[m-1]!):=fun e=>hk (zI e);have Z:j=m:=oM;subst Z;have O:d[j]! =d[j-1]! :=Decidable.not_not.1 fun e=>A (.inr e);have h6:j≠0:=fun e=>A (.inl e);exact⟨j-1,oM,e.trans O⟩
theorem a0d(l:List Int):aQ (l.mergeSort fun x y=>decide (x≤y))=KU l:=by
 have hp:(l.mergeSort fun x y=>decide (x≤y)).Pairwise (fun a b=>decide (a≤b)=true):=
  List.pairwise_mergeSort (le:=fun x y:Int=>decide (x≤y)) (fun a b c h1 h2=>zI (Int.le_trans (zB h1) (zB h2))) (fun a b=>by
   rcases Int.le_total a b with h|h<;>simp[h]) l
 have O:=VE (l.mergeSort fun x y=>decide (x≤y)).toArray (fun i j G A=>by
  have Z:j<(l.mergeSort fun x y=>decide (x≤y)).length:=by simpa using A
  have a0:i<(l.mergeSort fun x y=>decide (x≤y)).toArray.size:=Nat.lt_trans G A;rw[getElem!_pos _ i a0,getElem!_pos _ j A];simp only[List.getElem_toArray];exact zB (List.pairwise_iff_getElem.1 hp i j oM Z G)) _ (aV _)
 refine a7O ?_ fun x=>?_
 ·unfold aQ;simpa using O.1
 have h2:=O.2 x;simp only[List.size_toArray]at h2;unfold aQ;rw[h2];have hm:x∈l↔x∈l.mergeSort fun x y=>decide (x≤y):=List.mem_mergeSort.symm;rw[hm,List.mem_iff_getElem];constructor
 ·rintro⟨j,A,rfl⟩;refine⟨j,A,?_⟩;rw[getElem!_pos _ j (by simpa using A)];simp
 rintro⟨j,A,rfl⟩;refine⟨j,A,?_⟩;rw[getElem!_pos _ j (by simpa using A)];simp
end Bk
namespace Go.Proofs.YtojdemmgkdokmaaGreatDoor
open _root_.Go.Proofs.Tryz
open Go Go.Sx
abbrev GY (n:Int):List Value:=[i64 n]
theorem LP n:(GY n).length=1:=rfl
theorem a2N n:(GY n).all Value.oneCell'=true:=rfl
theorem a8H(l:List Int):l.flatMap GY=l.map i64:=by induction l with|nil=>rfl|cons a l h=>rw[List.flatMap_cons,h];rfl
abbrev kvI (a:dL):Value:= .agg #[str a.1,i64 a.2.1,i64 a.2.2]
theorem b6E:IK aB 103 kvI:=IK.c5i underlying103 kR dE dE rfl rfl rfl rfl BF BX WX kR dE dE rfl rfl rfl rfl tU3 DT EI AY
theorem b9w{w I T g X}(h:St w [] I I [] w)(A:X.size=g*1):RR w [] I (fun e _ H'=>∃g,e= .returned (gV 0 g)∧CU 0 1 0 [] g∧H'=gH T [] g) (.returned (.slice (some ⟨w.heap.size,0,none⟩) 0 g)) (w.drew.alloc (.cells X T)):=
 have e:Obj.cells X T=yY T ([]++X.toList):=by simp[yY]
 ⟨I,[(w.heap.size,yY T ([]++X.toList))],e▸(h.drewN (w.drawn+1)).alloc (.cells X T),some (w.heap.size,g,X.toList),rfl,⟨cO _,rfl,by simpa using A⟩,rfl⟩
theorem c1t(n:Nat)(h0:0<n)(hl:n≤1000000000) I:yT aB 64 [.slice none 0 0,i64 (n:Int)] I [] (fun e _ H'=>∃g,e= .returned (gV 0 g)∧CU 0 1 0 [] g∧H'=gH 3 [] g):=by
 refine⟨bH func64 dE rfl,fun w A=>?_⟩;have h:=Any8.slices_Grow_grow Tryz.growI _ _ rfl rfl dE none 0 0 n [] w (aV _) oM (by show(0+n)*8≤_;omega) oM rfl (fun _=>rfl) (fun a Z=>by cases Z);refine h.mono ?_;rintro e w' ⟨rfl,rfl⟩;have G:=St.start w I [] A.1 A.2.1 A.2.2.1 A.2.2.2;have O:=grownCap_ge w (0+n) 0 (eY.t 25);generalize grownCap w (0+n) 0 (eY.t 25)=g at O ⊢;refine b9w G ?_;simp[Builtin.zeroCells,Value.cells];omega
theorem c1W{base}(l:List Int) g (hg:CU base 1 l.length (l.flatMap GY) g)(Z:l.length≤100000000000000) I:yT aB 37 [gV l.length g] I (gH 3 (l.flatMap GY) g)
 (fun e _ H'=>e= .returned (.tuple #[])∧H'=gH 3 ((l.mergeSort fun x y=>decide (x≤y)).flatMap GY) g):=by
 rw[a8H]at *;rw[a8H];cases g with
 |none=>
  obtain⟨h1,h2⟩:=hg;have h0:l=[]:=bQ.1 h1;subst h0;exact(dF (bH func37 dE rfl) (fun w _=>Tryz.slices_Sort_int_none none 0 w)).mono fun e _ H' _ ⟨h1,_,h3⟩=>⟨h1,h3⟩
 |some q=>
  obtain⟨b,c,sp⟩:=q;refine⟨bH func37 dE rfl,fun w G=>?_⟩;have A:=G.2.1 _ (.head _);have O:b<w.heap.size:=by
   rcases dD b w.heap.size with h|h
   ·exact h
   rw[dK h]at A;cases A
  exact(Tryz.slices_Sort_int b 0 c l w (a7g (enc:=dI .i64) A) O oM).mono fun e w' ⟨h1,n,os,h2⟩=>⟨I,_,h2▸St.c6g (enc:=dI .i64) n os G sI,h1,rfl⟩
theorem b4p{base} l g (hg:CU base 1 l.length (l.flatMap GY) g)(hl:l.length≤100000000000000) I:yT aB 38 [gV l.length g] I (gH 3 (l.flatMap GY) g)
 (fun e _ H'=>∃h,CU base 1 (aQ l).length ((aQ l).flatMap GY) h∧e= .returned (gV (aQ l).length h)∧H'=gH 3 ((aQ l).flatMap GY) h):=by
 simp only[a8H]at *;cases g with
 |none=>
  obtain⟨h1,h2⟩:=hg;have h0:l=[]:=bQ.1 h1;subst h0;exact(dF (bH func38 dE rfl) (fun w _=>Tryz.slices_Compact_int_empty none 0 w)).mono fun e _ H' _ ⟨h1,_,h3⟩=>⟨none,⟨rfl,rfl⟩,h1,h3⟩
 |some q=>
  obtain⟨b,c,sp⟩:=q;obtain⟨G,O,Z⟩:=hg;rw[aJ]at O Z;have a0:=Lib.compact_length_le l;refine⟨bH func38 dE rfl,fun w A=>?_⟩;refine(Tryz.slices_Compact_int b 0 c l w (a7g (enc:=dI .i64) (A.2.1 _ (.head _))) oM oM).mono fun e w' ⟨h1,n,h2⟩=>?_;have h3:=St.c6g (enc:=dI .i64) (l':=aQ l++fA (l.length-(aQ l).length) 0) n #[] A (by simp;omega);rw[Go.Sort.grow_empty,←h2,dJ,eH]at h3;refine⟨I,_,h3,some (b,c,(fA (l.length-(aQ l).length) 0).map i64++sp),⟨G,sI,by simp;omega⟩,h1,rfl⟩
def b6P:Value→Prop
 | .slice (some a) _ _=>a.spot=none
 |_=>True
def a2r (I:Heap) (l:List Int) (v:Value):Prop:=zY GY I l v∧b6P v
theorem a2r.mono{I A l v}(h:a2r I l v)(G:Le I A):a2r A l v:=⟨h.1.mono G,h.2⟩
theorem a5D n g:b6P (gV n g):=by cases g with|none=>trivial|some q=>rfl
theorem b8w l v (hl:l.length≤1000000000) I (Z:a2r I l v):yT aB 36 [v] I [] (fun e _ H'=>∃g,CU 0 1 l.length (l.flatMap GY) g∧e= .returned (gV l.length g)∧H'=gH 3 (l.flatMap GY) g):=by
 obtain⟨⟨p,c,rfl,_,G⟩,hf⟩:=Z;cases p with
 |none=>
  have O:l=[]:=by
   refine Classical.byContradiction fun h=>?_;obtain⟨b,o,cs,t,fr,sp,h1,_⟩:=G h;cases h1
  subst O;exact(dF (bH func36 dE rfl) (fun w _=>Tryz.slices_Clone_nil 0 c w)).mono fun e _ H' _ ⟨h1,_,h3⟩=>⟨none,⟨rfl,rfl⟩,h1,h3⟩
 |some a=>
  obtain⟨b,o,s⟩:=a;have hs:s=none:=hf;subst hs;refine yT.c6r (bH func36 dE rfl) fun w hw=>?_;refine Tryz.slices_Clone _ (i64 0) 1 8 rfl rfl rfl rfl rfl dE AB b o l.length c (l.flatMap GY) w (by rw[DN LP]) (by unfold maxLen;omega) oM (fun j u A=>?_) fun u A=>?_
  ·have h:l≠[]:=fun e=>by subst e;cases A
   obtain⟨_,o',cs,t,fr,sp,h1,hb,hd⟩:=G h;cases h1;refine cell_of_heap (hw _ _ hb) ?_;have h2:(cs.drop o)[j]?=some u:=by
    rw[hd,List.getElem?_append_left (List.getElem?_eq_some_iff.1 A).1];exact A
   rwa [List.getElem?_drop]at h2
  obtain⟨n,_,hn⟩:=List.mem_flatMap.1 A;rw[bK.1 hn];rfl
def ZK (I:Heap) (x:Fv):Prop:=a2r I x.f.p x.v
theorem ZK.mono{I A x}(h:ZK I x)(G:Le I A):ZK A x:=a2r.mono h G
theorem rowLen{α:Type}{f:α→List Value}{I:Heap}{l:List α}{v:Value}(h:zY f I l v):∃p c,v= .slice p l.length c:=let ⟨p,c,h1,_⟩:=h;⟨p,c,h1⟩
theorem a2r.len{I l v}(h:a2r I l v):∃p c,v= .slice p l.length c:=rowLen h.1
theorem b9D I:Pure aB 64 [.slice none 0 0,i64 0] I (.slice none 0 0):=
 dF (bH func64 dE rfl) fun w _=>(Any8.slices_Grow_room Tryz.growI none 0 0 0 w dE dE dE dE)
theorem a8b l m v1 v2 vb (hl:l.length+m.length≤1000000000) I (h1:zY GY I l v1)(h2:zY GY I m v2):
 yT aB 32 [.slice (some ⟨vb,0,none⟩) 2 2] I [(vb,yY 39 [v1,v2])] (fun e I' H'=>∃w,e= .returned w∧a2r I' (l++m) w∧H'=[]):=by
 obtain⟨p1,c1,rfl,Z,-⟩:=id h1;obtain⟨p2,_,rfl,G,-⟩:=id h2;refine yT.ob func32 ?_;intro w0 _;refine Cj.sr (aA yQ ?_);refine J.yV (aA yQ ?_);refine J.AO (aK (aA yP ?_));refine aA (AU YI) ?_;refine aA yP ?_;refine J.ns (aS (fC 3 ?_));refine bU ?_;refine Cj.sr (aA BM ?_);refine J.nss (bF rfl (fun Z=>?_) (fun Z=>aC (aY (bG (by first|rfl|decide)) Z)));refine bC (aT (dS (aS (Cj.sr (aA (BZ (off':=0) rfl rfl rfl YI IG dE dE dE) ?_)))));refine aA (yX MX (yR.at 0 rfl)) ?_;refine aA yQ ?_;refine J.yV (aA yP ?_);refine aA yP ?_;refine aA (AU JW) ?_;refine aA (yZ rfl rfl rfl (AA oM)) ?_;refine aA yQ ?_;refine J.yV (aA yP ?_);refine aA BM ?_;refine J.cd (fun G=>?_) (fun G=>?_)
 ·have aa:=BH G;omega
 have aa:=BN G;refine bC (aN (aT (aK (aA (yZ rfl rfl rfl (AA oM)) ?_))));refine aA yP ?_;refine J.nil (dA ?_);refine bU ?_;refine Cj.sr (aA BM ?_);refine J.nss (bF rfl (fun a6=>?_) (fun a6=>aC (aY (bG (by first|rfl|decide)) a6)));refine bC (aT (dS (aS (Cj.sr (aA (BZ (off':=1) rfl rfl rfl YI IG dE dE dE) ?_)))));refine aA (yX MX (yR.at 0 rfl)) ?_;refine aA yQ ?_;refine J.yV (aA yP ?_);refine aA yP ?_;refine aA (AU JW) ?_;refine aA (yZ rfl rfl rfl (AA oM)) ?_;refine aA yQ ?_;refine J.yV (aA yP ?_);refine aA BM ?_;refine J.cd (fun a0=>?_) (fun a0=>?_)
 ·have ab:=BH a0;omega
 have ab:=BN a0;refine bC (aN (aT (aK (aA (yZ rfl rfl rfl (AA oM)) ?_))));refine aA yP ?_;refine J.nil (dA ?_);refine bU ?_;refine Cj.sr (aA BM ?_);refine J.nss (bF rfl (fun a7=>aC (aY (bG (by first|rfl|decide)) a7)) (fun a7=>?_));refine eF (bI (bI (dB (aT (Cj.sr ?_)))));rcases Nat.eq_zero_or_pos (l.length+m.length)with h0|h0
 ·skip
  refine aA yP ?_;refine dQ 23 rfl (show _=i64 0 from(zD i64 oM)) ?_;refine aG rfl (yU rfl rfl rfl rfl rfl (b9D _) ?_);refine aA yQ ?_;refine J.AO (aK (aA yP ?_));refine aA (AU YI) ?_;refine aA yP ?_;refine J.ns (aS (fC 3 ?_));refine bU ?_;refine Cj.sr (aA BM ?_);refine J.nss (bF rfl (fun a8=>?_) (fun a8=>aC (aY (bG (by first|rfl|decide)) a8)));refine bC (aT (dS (aS (Cj.sr (aA (BZ (off':=0) rfl rfl rfl YI IG dE dE dE) ?_)))));refine aA (yX MX (yR.at 0 rfl)) ?_;refine aA yQ ?_;refine J.GL (aA yP ?_);refine aA yP ?_;refine aG rfl (BJ (by':=7) (n:=0) (g:=none) (xs:=[]) [_] rfl rfl rfl rfl rfl JW (.inr ⟨_,JW⟩) kR AB RQ rfl rT rfl (Src.row LP h1 (fun x _=>a2N x)) oM ?_);intro _ ah;refine aA yQ ?_;refine J.nil (aN (aT (aK (aA (yZ rfl rfl rfl (AA oM)) ?_))));refine aA yP ?_;refine J.nil (dA ?_);refine bU ?_;refine Cj.sr (aA BM ?_);refine J.nss (bF rfl (fun a9=>?_) (fun a9=>aC (aY (bG (by first|rfl|decide)) a9)));refine bC (aT (dS (aS (Cj.sr (aA (BZ (off':=1) rfl rfl rfl YI IG dE dE dE) ?_)))));refine aA (yX MX (yR.at 0 rfl)) ?_;refine aA yQ ?_;refine J.GL (aA yP ?_);refine aA yP ?_;refine aG rfl (BJ (by':=7) [_] rfl rfl rfl rfl rfl JW (.inr ⟨_,JW⟩) kR AB RQ rfl ah rfl (Src.row LP h2 (fun x _=>a2N x)) oM ?_);intro g9 ai;refine aA yQ ?_;refine J.nil (aN (aT (aK (aA (yZ rfl rfl rfl (AA oM)) ?_))));refine aA yP ?_;refine J.nil (dA ?_);refine bU ?_;refine Cj.sr (aA BM ?_);refine J.nss (bF rfl (fun a1=>aC (aY (bG (by first|rfl|decide)) a1)) (fun a1=>?_));refine eF (bI (bI (dB (aT (Cj.sr (aA yP ?_))))));refine aA yQ ?_;refine J.ns (aU (bP (aH bY) ?_));have A:([]:List Value)++l.flatMap GY++m.flatMap GY=(l++m).flatMap GY:=sI;refine Ej.perm (H':=gH 3 ((l++m).flatMap GY) g9++[]) (.of_eq (by rw[←A,aI];rfl)) ?_;refine Ej.keepR LP dE (by rw[←A];exact ai) (by rw[aO];omega) (fun I8 ac a2=>?_);refine zN ?_;exact⟨_,rfl,⟨a2,a5D _ _⟩,rfl⟩
 skip
 refine aA yP ?_;refine dQ 23 rfl (show _=i64 ((l.length+m.length:Nat):Int) from(zD i64 oM)) ?_;refine aG rfl (FU rfl rfl rfl rfl rfl (c1t (l.length+m.length) oM oM _) ?_ (fun _ _ _ _ ⟨_,h,_⟩=>by cases h) (fun _ _ ⟨_,h,_⟩=>by cases h));intro _ _ _ O ad ae;have h1:=h1.mono O;have h2:=h2.mono O;obtain⟨g,h,aj,rfl⟩:=ae;cases h;have hg:=aj.base ad;refine J.perm (H':=[_]++gH _ _ g) List.perm_append_comm ?_;refine aA yQ ?_;refine J.AO (aK (aA yP ?_));refine aA (AU YI) ?_;refine aA yP ?_;refine J.ns (aS (fC 3 ?_));refine bU ?_;refine Cj.sr (aA BM ?_);refine J.nss (bF rfl (fun a3=>?_) (fun a3=>aC (aY (bG (by first|rfl|decide)) a3)));refine bC (aT (dS (aS (Cj.sr (aA (BZ (off':=0) rfl rfl rfl YI IG dE dE dE) ?_)))));refine aA (yX MX (yR.at 0 rfl)) ?_;refine aA yQ ?_;refine J.GL (aA yP ?_);refine aA yP ?_;refine aG rfl (BJ (by':=7) [_] rfl rfl rfl rfl rfl JW (.inr ⟨_,JW⟩) kR AB RQ rfl hg rfl (Src.row LP h1 (fun x _=>a2N x)) oM ?_);intro _ af;refine aA yQ ?_;refine J.nil (aN (aT (aK (aA (yZ rfl rfl rfl (AA oM)) ?_))));refine aA yP ?_;refine J.nil (dA ?_);refine bU ?_;refine Cj.sr (aA BM ?_);refine J.nss (bF rfl (fun a4=>?_) (fun a4=>aC (aY (bG (by first|rfl|decide)) a4)));refine bC (aT (dS (aS (Cj.sr (aA (BZ (off':=1) rfl rfl rfl YI IG dE dE dE) ?_)))));refine aA (yX MX (yR.at 0 rfl)) ?_;refine aA yQ ?_;refine J.GL (aA yP ?_);refine aA yP ?_;refine aG rfl (BJ (by':=7) [_] rfl rfl rfl rfl rfl JW (.inr ⟨_,JW⟩) kR AB RQ rfl af rfl (Src.row LP h2 (fun x _=>a2N x)) oM ?_);intro ak ag;refine aA yQ ?_;refine J.nil (aN (aT (aK (aA (yZ rfl rfl rfl (AA oM)) ?_))));refine aA yP ?_;refine J.nil (dA ?_);refine bU ?_;refine Cj.sr (aA BM ?_);refine J.nss (bF rfl (fun a5=>aC (aY (bG (by first|rfl|decide)) a5)) (fun a5=>?_));refine eF (bI (bI (dB (aT (Cj.sr (aA yP ?_))))));refine aA yQ ?_;refine J.ns (aU (bP (aH bY) ?_));have A:([]:List Value)++l.flatMap GY++m.flatMap GY=(l++m).flatMap GY:=sI;refine Ej.perm (H':=gH 3 ((l++m).flatMap GY) ak++[]) (.of_eq (by rw[←A,aI];rfl)) ?_;refine Ej.keepR LP dE (by rw[←A];exact ag) (by rw[aO];omega) (fun I8 ac a2=>?_);refine zN ?_;exact⟨_,rfl,⟨a2,a5D _ _⟩,rfl⟩
theorem c6L x I:Pure aB 29 [.agg (FK x).toArray] I (kvI (Bk.DF x.f)):=by
 refine bV ?_;refine yT.ob func29 ?_;intro w0 _;refine Cj.sr (aG rfl (BL ?_));intro _ _;refine aG rfl (BP zeroValue103 ?_);intro _ _;refine J.AO (aK (aA (qq2 (off':=2) GI zL) ?_));refine aA (yX BX (yR.at 1 rfl)) ?_;refine aA (LH rfl rfl rfl) ?_;refine J.cd (fun h=>?_) (fun h=>?_)
 ·have A:=bne_iff_ne.1 h;refine Cj.sr (aA (qq2 (off':=2) GI zL) ?_);refine aA (yX BX (yR.at 1 rfl)) ?_;refine aA (zV (pl:= #[(0,1),(1,2)]) rfl rfl zeroValue103 rfl underlying103 (fun w=>by simp[AY,zL]) (dU rfl rfl rfl (aF aW) fD)) ?_;refine aG rfl (zS 0 sizeOf103 (aF (aF (aF aW))) bD ?_);refine J.ns (aU (Ej.LM (cZ (aH (aH eG)) rfl rfl rfl (yR.at 0 rfl) isAgg103 sizeOf103 rfl ?_)));rw[show Bk.DF x.f=(x.f.k,((0:Int),(0:Int))) from zG (bne_iff_ne.1 h)];exact rT
 have A:=EC h;refine bC (aT (Cj.sr (aA (qq2 (off':=0) GI AY) ?_)));refine aA (zX EI AY (yR.at 1 rfl)) ?_;refine aA (zV (pl:= #[(0,1),(1,2)]) rfl rfl zeroValue103 rfl underlying103 (fun w=>by simp[AY,zL]) (dU rfl rfl rfl (dG (aF (aF aW))) fD)) ?_;refine aG rfl (zS 0 sizeOf103 (aF (aF (aF aW))) bD ?_);refine J.ns (aU (cZ (aH (aH eG)) rfl rfl rfl (yR.at 0 rfl) isAgg103 sizeOf103 rfl ?_));rw[show Bk.DF x.f=([],x.f.t) from zF (fun g=>g (EC h))];exact rT
theorem b4i x y I:yT aB 31 [BI x,BI y] I [] (fun e _ H'=>e= .returned (i64 (a0C x y))∧H'=[]):=yT.c7E (a4z x.1 x.2 y.1 y.2 I)
theorem c7c n:IntKind.i64.wrap n=Bk.W n:=by rw[IntKind.wrap_i64];unfold Bk.W;omega
theorem c4O x y (hl:x.f.p.length+y.f.p.length≤1000000000) I (A:ZK I x)(G:ZK I y):yT aB 30 [.agg (FK x).toArray,.agg (FK y).toArray] I []
 (fun e I' H'=>∃z:Fv,e= .returned (.agg (FK z).toArray)∧z.f=fE x.f y.f∧ZK I' z∧H'=[]):=by
 refine yT.ob func30 ?_;intro w0 _;refine Cj.sr (aG rfl (BL ?_));intro _ _;refine aG rfl (BL ?_);intro _ _;refine aG rfl (BP NQ ?_);intro _ _;refine J.AO (aK (aA (qq2 (off':=0) GI AY) ?_));refine aA (zX EI AY (yR.at 1 rfl)) ?_;refine aA (qq2 (off':=0) GI AY) ?_;refine aA (zX EI AY (yR.at 2 rfl)) ?_;refine aG rfl (yS (H1:=[]) rfl rfl rfl rfl rfl (b4i y.f.t x.f.t _) ?_ (fun _ _ _ _ ⟨h,_⟩=>by cases h) (fun _ _ ⟨h,_⟩=>by cases h));intro _ _ _ a0 a4;have A:=A.mono a0;have G:=G.mono a0;obtain⟨h,rfl⟩:=a4;cases h;refine aA BM ?_;refine dQ 10 rfl (show _= .bool (fF y.f.t x.f.t) from(zD Value.bool (UL y.f.t x.f.t))) ?_;refine J.cd (fun a1=>?_) (fun a1=>?_)
 ·refine aK (aA (qq2 (off':=0) GI AY) ?_);refine aA (zX EI AY (yR.at 1 rfl)) ?_;refine aA (qq2 (off':=0) GI AY) ?_;refine aG rfl (zS 2 AY (aF (aF aW)) (bM (bM bD)) ?_);refine J.yV (aA (qq2 (off':=3) GI IG) ?_);refine aA (yX MX (yR.at 2 rfl)) ?_;refine aA (qq2 (off':=3) GI IG) ?_;refine aA (yX MX (yR.at 1 rfl)) ?_;refine aG rfl (AZ YI IG c6w (eP rfl (eP rfl dV)) ?_);intro _ _;refine J.pull dW ?_;refine aG rfl (yS (H1:=[_]) rfl rfl rfl rfl rfl (a8b x.f.p y.f.p _ _ _ hl _ A.1 G.1) ?_ (fun _ _ _ _ ⟨_,h,_⟩=>by cases h) (fun _ _ ⟨_,h,_⟩=>by cases h));intro _ _ _ O a2;have A:=A.mono O;have G:=G.mono O;obtain⟨w,h,hw,rfl⟩:=a2;cases h;obtain⟨pw,cw,rfl⟩:=hw.len;refine aA (qq2 (off':=3) GI IG) ?_;refine aG rfl (zS 2 IG (dG (dG (dG (aF aW)))) (bM (bM bD)) ?_);refine J.yV (aA (zX UU EL (yR.at 2 rfl)) ?_);refine aG rfl (zS 0 EL (aF (aF (aF (aF aW)))) bD ?_);refine J.ns (aU (cZ (aH (aH (aH eG))) rfl rfl rfl (yR.at 0 rfl) UU EL rfl ?_));exact⟨⟨⟨y.f.t,x.f.k,x.f.p++y.f.p⟩,pw,cw⟩,rfl,by unfold fE;rw[show(if fF y.f.t x.f.t=true then y.f.t else x.f.t)=y.f.t from zG a1],hw,rfl⟩
 refine bC (aT (Cj.sr (aA (qq2 (off':=3) GI IG) ?_)));refine aA (yX MX (yR.at 2 rfl)) ?_;refine aA (qq2 (off':=3) GI IG) ?_;refine aA (yX MX (yR.at 1 rfl)) ?_;refine aG rfl (AZ YI IG c6w (eP rfl (eP rfl dV)) ?_);intro _ _;refine J.pull dW ?_;refine aG rfl (yS (H1:=[_]) rfl rfl rfl rfl rfl (a8b x.f.p y.f.p _ _ _ hl _ A.1 G.1) ?_ (fun _ _ _ _ ⟨_,h,_⟩=>by cases h) (fun _ _ ⟨_,h,_⟩=>by cases h));intro _ _ _ Z a3;have A:=A.mono Z;have G:=G.mono Z;obtain⟨w,h,hw,rfl⟩:=a3;cases h;obtain⟨pw,cw,rfl⟩:=hw.len;refine aA (qq2 (off':=3) GI IG) ?_;refine aG rfl (zS 2 IG (dG (dG (dG (aF aW)))) (bM (bM bD)) ?_);refine J.yV (aA (zX UU EL (yR.at 2 rfl)) ?_);refine aG rfl (zS 0 EL (aF (aF (aF (aF aW)))) bD ?_);refine J.ns (aU (cZ (aH (aH (aH eG))) rfl rfl rfl (yR.at 0 rfl) UU EL rfl ?_));exact⟨⟨⟨x.f.t,x.f.k,x.f.p++y.f.p⟩,pw,cw⟩,rfl,by unfold fE;rw[show(if fF y.f.t x.f.t=true then y.f.t else x.f.t)=x.f.t from zF (by rw[a1];exact Bool.false_ne_true)],hw,rfl⟩
theorem c4i x I:Pure aB 51 [.agg (CW x).toArray] I (str x.1):=by
 refine bV ?_;refine yT.ob func51 ?_;intro w0 _;refine Cj.sr (aG rfl (BL ?_));intro _ _;refine aA yQ ?_;refine J.yV (aA (qq2 (off':=0) VT zL) ?_);refine aA (yX BX (yR.at 0 rfl)) ?_;refine aA yQ ?_;refine J.ns (aU (Ej.bare ?_));refine zN ?_;exact rT
theorem c1F x y I:Pure aB 52 [.agg (CW x).toArray,.agg (CW y).toArray] I (.agg (CW (x.1,Bk.W (x.2+y.2))).toArray):=by
 refine bV ?_;refine yT.ob func52 ?_;intro w0 _;refine Cj.sr (aG rfl (BL ?_));intro _ _;refine aG rfl (BL ?_);intro _ _;refine aG rfl (BP NS ?_);intro _ _;refine J.yV (aA (qq2 (off':=0) VT zL) ?_);refine aA (yX BX (yR.at 2 rfl)) ?_;refine aA (qq2 (off':=1) VT AB) ?_;refine aA (yX DT (yR.at 2 rfl)) ?_;refine aA (qq2 (off':=1) VT AB) ?_;refine aA (yX DT (yR.at 1 rfl)) ?_;refine aA (a8x rfl rfl rfl) ?_;refine dQ 11 rfl (show _=i64 (Bk.W (x.2+y.2)) from(zD (dI .i64) (c7c _))) ?_;refine aA (zV (pl:= #[(0,1),(1,1)]) rfl rfl NS rfl VT (fun w=>by simp[AB,zL]) (dU rfl rfl rfl (aF aW) (dU rfl rfl rfl (dG (aF aW)) fD))) ?_;refine aG rfl (zS 0 IQ (aF (aF aW)) bD ?_);refine J.ns (aU (cZ (aH (aH (aH eG))) rfl rfl rfl (yR.at 0 rfl) YV IQ rfl ?_));exact rT
theorem c0X a n c (h:n≤c) I:Pure aB 60 [.slice a n c] I (.slice a n n):=by
 refine bV ?_;refine yT.ob func60 ?_;intro w0 _;refine Cj.sr (aA yQ ?_);refine J.yV (aA yP ?_);refine aA yP ?_;refine aA (AU EW) ?_;refine aA yP ?_;refine aA (AU EW) ?_;refine aA (b0j (k:=n) (m:=n) rfl rfl rfl rfl EW EL (aV _) h) ?_;refine aA yQ ?_;refine J.ns (aU (zN ?_));exact rT
theorem JL a n c most (h:n≤c) I:Pure aB 26 [.slice a n c,i64 most] I (.slice a (min n most.toNat) (min n most.toNat)):=by
 refine bV ?_;refine yT.ob func26 ?_;intro w0 _;refine Cj.sr (aA yQ ?_);refine J.yV (aA yP ?_);refine aA yP ?_;refine aA (AU EW) ?_;refine aA yP ?_;refine aA (KG rfl rfl rfl) ?_;refine aA (LV rfl rfl rfl) ?_;refine dQ 10 rfl (show _=i64 ((min n most.toNat:Nat):Int) from(zD i64 (a7K _ _))) ?_;refine aA (LG (k:=(min n most.toNat)) rfl rfl rfl EW EL rfl (IU (bW _ _) h)) ?_;refine aG rfl (yU rfl rfl rfl rfl rfl (c0X a (min n most.toNat) c (IU (bW _ _) h) _) ?_);refine aA yQ ?_;refine J.ns (aU (zN ?_));exact rT
theorem b7O a n c most (h:n≤c) I:Pure aB 49 [.slice a n c,i64 most] I (.slice a (min n most.toNat) (min n most.toNat)):=by
 refine bV ?_;refine yT.ob func49 ?_;intro w0 _;refine Cj.sr (aA yQ ?_);refine J.yV (aA yP ?_);refine aA yP ?_;refine aA (AU KL) ?_;refine aA yP ?_;refine aA (KG rfl rfl rfl) ?_;refine aA (LV rfl rfl rfl) ?_;refine dQ 10 rfl (show _=i64 ((min n most.toNat:Nat):Int) from(zD i64 (a7K _ _))) ?_;refine aA (LG (k:=(min n most.toNat)) rfl rfl rfl KL IQ rfl (IU (bW _ _) h)) ?_;refine aG rfl (yU rfl rfl rfl rfl rfl (a9c a (min n most.toNat) c (IU (bW _ _) h) _) ?_);refine aA yQ ?_;refine J.ns (aU (zN ?_));exact rT
def nxM {α:Type} (l:ML α) (e:α×Value×Nat→Value):Heap→ML α→List Value→ML α→Prop:=fun _ vis args vis'=>∃p r,(vis++p::r).Perm l∧args=[e p]∧vis'=vis++[p]
theorem b4K{α:Type}{l:ML α}{e:α×Value×Nat→Value}:∀I s args A,nxM l e I s args A→args.length=1:=fun _ _ _ _ ⟨_,_,_,h,_⟩=>by rw[h];rfl
theorem a1V{α β:Type}(vis:List α)(p:α) φ (f:β→List Value):((vis++[p]).map φ).flatMap f=(vis.map φ).flatMap f++f (φ p):=sI
theorem b3z{α:Type}{a b l:List α}{x:α}(h:(a++[x]++b).Perm l):(a++x::b).Perm l:=by rw[eH]at h;exact h
theorem b4Y{α:Type}{a b l:List α}{x:α}(h:(a++x::b).Perm l):a.length<l.length:=by have:=h.length_eq;rw[aO,aP]at this;omega
structure TVF where
  vis:ML (Bk.Idn)
  rest:ML (Bk.Idn)
  J:Heap
  H:HL
theorem c2G kb mb l c (a0:MS l c)(φ:(dL)×Value×Nat→Fv)(hφ:∀p∈l,p.2.1= .agg (FK (φ p)).toArray) I (G:I kb=some (yY 151 [.map (some mb)]))(A:I mb=some (BD kvI l c)):a2n aB 106 [] [ptr kb 0] I ([]:ML (dL)) (nxM l fun p=> .agg (FK (φ p)).toArray) (fun s=>s.Perm l):=by
 refine⟨bH func106 dE rfl,fun ly Y Z _ a9 H aa=>?_⟩;refine yT.ob func106 ?_;intro w0 _;refine Cj.sr (aA (yX isAgg151 (bZ G)) ?_);refine aG rfl (NZ (kv:=kvI) (l:=l) rfl rfl rfl rfl a7G (bZ A) ?_);intro b1 _;refine J.ns (aS (Cj.loop (ι:=TVF) (fun y=>(y.vis++y.rest).Perm l∧(y.J kb=some (yY 151 [.map (some mb)])∧y.J mb=some (BD kvI l c))∧Y y.vis y.J y.H) (fun y=>y.rest.length) (fun y=>[(0,.func (.yield ly) #[] #[]),(6,ptr b1 0)]) (fun y=>y.J) (fun y=>(b1,ZI mb c y.vis c)::y.H) ⟨[],l,_,H⟩ ⟨.refl _,⟨G,A⟩,aa⟩ rT rfl rfl ?_));rintro⟨vis,rest,_,HY⟩ ⟨hp,⟨G,A⟩,hY⟩;dsimp only at hp G A hY ⊢;refine Cj.sr (aG rfl (PI (kv:=kvI) (l:=l) 0 rfl rfl rfl rfl rfl (bZ A) a0.2.2 (aV _) a0.2.1 hp ?_ ?_))
 ·rintro x O _ ab a1 ⟨-,hset⟩;simp only[dX,dY]at hset;subst hset;have a4:x∈l:=a1.mem_iff.1 (dR _ (dM _ (.head _)));refine aA AQ ?_;refine J.nss (bF rfl (fun a5=>?_) (fun a5=>aC (aY (bG rfl) a5)));refine bC (aT (aS (Cj.sr (aA (UM (kv:=kvI) (l:=l) rfl rfl (yR.at 0 rfl) (bZ A) a4 a0.2.1) ?_))));refine aA AQ ?_;refine dQ 10 rfl (show _= .agg (FK (φ x)).toArray from hφ x a4) ?_;refine aG rfl (BP NQ ?_);intro _ _;refine aG rfl (zS 0 EL (aF (aF (aF (aF aW)))) bD ?_);refine J.yV (aA yP ?_);refine aA (zX UU EL (yR.at 0 rfl)) ?_;refine J.yield [_,_] rfl rfl rfl rfl rfl rfl (a9 vis [_] (vis++[x]) _ HY ⟨x,O,b3z a1,rfl,rfl⟩ hY) ?_ (fun _ _ _ h=>by rcases h with⟨h,_⟩|⟨h,_⟩<;>cases h) (fun _ _ h=>by rcases h with⟨h,_⟩|⟨h,_⟩<;>cases h);intro v3 I3 H3 a2 ac;have G:=a2 _ _ G;have A:=a2 _ _ A;obtain⟨_,h3,a6⟩:∃t:Bool,v3= .bool t∧((t=true∧Y (vis++[x]) I3 H3)∨(t=false∧Z I3 H3)):=by
   rcases ac with⟨h,h2⟩|⟨h,h2⟩
   ·cases h;exact⟨true,rfl,.inl ⟨rfl,h2⟩⟩
   cases h;exact⟨false,rfl,.inr ⟨rfl,h2⟩⟩
  subst h3;refine aA (ER rfl rfl) ?_;refine J.cd (fun a3=>?_) (fun a3=>?_)
  ·have ad:Z I3 H3:=by
    rcases a6 with⟨rfl,_⟩|⟨_,h⟩
    ·exact aC a3
    exact h
   refine aU (dZ (Ej.OX (dZ (bP (H':=H3) (aZ _ (aZ _ (bT _))) ?_))));exact Ej.b2J rfl rfl ⟨rfl,.inr ad⟩
  have ae:Y (vis++[x]) I3 H3:=by
   rcases a6 with⟨_,h⟩|⟨rfl,_⟩
   ·exact h
   exact aC a3
  refine bC (aN (bP (aH (dN bY)) ?_));refine Ej.round ⟨vis++[x],O,_,H3⟩ ⟨a1,⟨G,A⟩,ae⟩ (by have h:=ab.length_eq;simp only[aP]at h;dsimp only;omega) rT rfl rfl
 intro a8;have af:vis.Perm l:=by rw[a8,aI]at hp;exact hp
 refine aA AQ ?_;refine J.nss (bF rfl (fun a7=>aC (aY (bG rfl) a7)) (fun a7=>?_));refine eF (bI (Ej.JK (dB (bP (H':=HY) (aZ _ (bT _)) ?_))));refine Ej.TK rfl rfl ⟨rfl,.inl ⟨vis,af,hY⟩⟩
theorem b5T m I:yT aB 63 [.map m] I [] (fun e _ H'=>∃b,e= .returned (.func (.func 106) #[] #[ptr b 0])∧H'=[(b,yY 151 [.map m])]):=by
 refine yT.ob func63 ?_;intro w0 _;refine Cj.sr (aG rfl (BL ?_));intro h _;refine aA yQ ?_;refine J.yV (aA (EH rfl rfl rfl) ?_);refine aA yQ ?_;refine J.ns (aU (zN ?_));exact⟨h,rfl,rfl⟩
theorem b0B A φ f G O I (hl:A.length≤1000000000000)(Z:a2n aB f G O I ([]:ML (dL)) (nxM A fun p=> .agg (FK (φ p)).toArray) (fun s=>s.Perm A)):yT aB 185 [.slice none 0 0,.func (.func f) G.toArray O.toArray] I []
 (fun e _ H'=>∃(zs:List (Fv)) (g:Gs),zs.Perm (A.map φ)∧CU 0 4 zs.length (zs.flatMap FK) g∧e= .returned (gV zs.length g)∧H'=gH 41 (zs.flatMap FK) g):=by
 refine yT.ZR func185 rfl dE (dP rfl) ?_;intro w0 _;refine Cj.sr (aG rfl (BL ?_));intro b1 _;refine aA yQ ?_;refine J.AO (aK (aA yP ?_));refine J.ns (aS (Cj.a3L (ps:=[7]) (H1:=[_]) (R:=[]) ([]:ML (dL)) (nxM A fun p=> .agg (FK (φ p)).toArray) (fun s=>s.Perm A) (fun vis _ H'=>∃g,CU 0 4 vis.length ((vis.map φ).flatMap FK) g∧H'=(b1,yY 30 [gV vis.length g])::gH 41 ((vis.map φ).flatMap FK) g) (fun _ _ _=>False) rfl (a2E rfl) b4K rfl Z (fun _ _ _ _ _ h=>h) ⟨none,⟨rfl,rfl⟩,rfl⟩ ?_ ?_ ?_))
 ·intro l r k args _ _ _ _ hk a1 hY;obtain⟨_,_,a2,rfl,rfl⟩:=hk;obtain⟨g,hg,rfl⟩:=hY;have a4:=b4Y a2;refine aK (aG rfl (BP NQ ?_));intro _ _;refine aG rfl (zS 0 EL (aF (aF (aF (aF aW)))) bD ?_);refine J.nil (fB (fG dW) ?_);refine Ej.asg ?_;refine aS (aK (aA (yX isAgg30 (yR.at 2 rfl)) ?_));refine aA (zX UU EL (yR.at 1 rfl)) ?_;refine aG rfl (AZ EW EL NQ (CG.agg rfl dV) ?_);intro _ _;refine aG rfl (MB 0 (cO _) (by':=55) [_,_,_,_] rfl rfl rfl rfl rfl EW (.inr ⟨_,EW⟩) kR EL NQ rfl hg rfl (Src.slice (yR.at 0 rfl) rfl rfl rfl) oM ?_);intro _ a3;refine aG rfl (EM 3 rfl rfl rfl rfl (KR _ _) (QO _ _) a2l rfl rfl (aF aW) (bM (bM (bM bD))) ?_);refine J.nil (aN (fB (fG dW) ?_));refine bP (dN (aH (aH (dN bY)))) ?_;exact Ej.a3D ⟨_,by rw[a1V,aO];exact a3,by rw[a1V,aO];rfl⟩
 ·intro _ sE _ _ a0 a1 hY;obtain⟨g,hg,rfl⟩:=hY;refine aN (aT (Cj.sr (aA (yX isAgg30 (yR.at 1 rfl)) ?_)));refine aA yQ ?_;refine J.ns (aU (Ej.a2G (.inl rfl) ?_));refine QM.mark 0 rfl bD ?_;refine QM.keep (aH (aH bY)) ?_;exact QM.a6L rfl rfl ⟨sE.map φ,g,a0.map φ,by rw[aJ];exact hg,by rw[aJ],aI _⟩
 exact fun _ _ _ _ _ hZ=>hZ.elim
theorem b3V A φ f G O I (hl:A.length≤1000000000000)(Z:a2n aB f G O I ([]:ML (dL)) (nxM A fun p=> .agg (FK (φ p)).toArray) (fun s=>s.Perm A)):yT aB 104 [.func (.func f) G.toArray O.toArray] I []
 (fun e _ H'=>∃(zs:List (Fv)) (g:Gs),zs.Perm (A.map φ)∧CU 0 4 zs.length (zs.flatMap FK) g∧e= .returned (gV zs.length g)∧H'=gH 41 (zs.flatMap FK) g):=by
 refine yT.ob func104 ?_;intro w0 _;refine Cj.sr (aA yQ ?_);refine J.yV (aA yP ?_);refine aG rfl (yS (H1:=[]) rfl rfl rfl rfl rfl (b0B A φ f G O _ hl Z) ?_ (fun _ _ _ _ ⟨_,_,_,_,h,_⟩=>by cases h) (fun _ _ ⟨_,_,_,_,h,_⟩=>by cases h));intro _ _ _ _ a0;obtain⟨zs,g,a1,hg,h,rfl⟩:=a0;cases h;refine aA yQ ?_;refine J.ns (aU (zN ?_));exact⟨zs,g,a1,hg,rfl,aI _⟩
theorem b5R A φ f G O I (hl:A.length≤1000000000000)(a2:a2n aB f G O I ([]:ML (dL)) (nxM A fun p=> .agg (FK (φ p)).toArray) (fun s=>s.Perm A)):yT aB 62 [.func (.func f) G.toArray O.toArray,.func (.func 33) #[] #[]] I []
 (fun e _ H'=>∃(ls:List (Fv)) (g:Gs),ls.Perm (A.map φ)∧ls.Pairwise (fun p q=>Bk.OO q.f p.f=false)∧CU 0 4 ls.length (ls.flatMap FK) g∧e= .returned (gV ls.length g)∧H'=gH 41 (ls.flatMap FK) g):=by
 refine yT.ob func62 ?_;intro w0 _;refine Cj.sr (aA yQ ?_);refine J.yV (aA yP ?_);refine aG rfl (yS (H1:=[]) rfl rfl rfl rfl rfl (b3V A φ f G O _ hl a2) ?_ (fun _ _ _ _ ⟨_,_,_,_,h,_⟩=>by cases h) (fun _ _ ⟨_,_,_,_,h,_⟩=>by cases h));intro _ _ _ _ a3;obtain⟨zs,g,a0,hg,h,rfl⟩:=a3;cases h;refine J.perm (H':=gH _ _ g) (.of_eq (aI _).symm) ?_;refine aA yQ ?_;refine J.yV (aA yP ?_);refine aA yP ?_;refine aG rfl (FV (H1:=gH 41 (zs.flatMap FK) g) [] rfl rfl rfl rfl rfl rfl (b8M zs g hg (by have:=a0.length_eq;rw[aJ]at this;omega) _) ?_ (fun _ _ _ _ h=>by obtain⟨_,_,_,h,_⟩:=h;cases h) (fun _ _ h=>by obtain⟨_,_,_,h,_⟩:=h;cases h));rintro _ _ _ _ ⟨ls,a1,a4,h,rfl⟩;cases h;have Z:zs.length=ls.length:=a1.length_eq.symm;refine J.yV (aA yP ?_);refine aA yQ ?_;refine J.ns (aU (zN ?_));rw[Z];exact⟨ls,g,a1.trans a0,a4,VI (Z▸hg) (by rw[DN EO,DN EO,Z]),rfl,rfl⟩
structure TVL where
  vis:ML (List UInt8)
  rest:ML (List UInt8)
  J:Heap
  H:HL
theorem c1h kb mb l c (a0:MS l c)(φ:(List UInt8)×Value×Nat→Bk.Ln)(hφ:∀p∈l,p.2.1= .agg (CW (φ p)).toArray) I (G:I kb=some (yY 186 [.map (some mb)]))(A:I mb=some (BD (fun a:List UInt8=>str a) l c)):a2n aB 158 [] [ptr kb 0] I ([]:ML (List UInt8)) (nxM l fun p=> .agg (CW (φ p)).toArray) (fun s=>s.Perm l):=by
 refine⟨bH func158 dE rfl,fun ly Y Z _ a9 H aa=>?_⟩;refine yT.ob func158 ?_;intro w0 _;refine Cj.sr (aA (yX isAgg186 (bZ G)) ?_);refine aG rfl (NZ (kv:=(fun a:List UInt8=>str a)) (l:=l) rfl rfl rfl rfl a7z (bZ A) ?_);intro b1 _;refine J.ns (aS (Cj.loop (ι:=TVL) (fun y=>(y.vis++y.rest).Perm l∧(y.J kb=some (yY 186 [.map (some mb)])∧y.J mb=some (BD (fun a:List UInt8=>str a) l c))∧Y y.vis y.J y.H) (fun y=>y.rest.length) (fun y=>[(0,.func (.yield ly) #[] #[]),(6,ptr b1 0)]) (fun y=>y.J) (fun y=>(b1,ZI mb c y.vis c)::y.H) ⟨[],l,_,H⟩ ⟨.refl _,⟨G,A⟩,aa⟩ rT rfl rfl ?_));rintro⟨vis,rest,_,HY⟩ ⟨hp,⟨G,A⟩,hY⟩;dsimp only at hp G A hY ⊢;refine Cj.sr (aG rfl (PI (kv:=(fun a:List UInt8=>str a)) (l:=l) 0 rfl rfl rfl rfl rfl (bZ A) a0.2.2 (aV _) a0.2.1 hp ?_ ?_))
 ·rintro x O _ ab a1 ⟨-,hset⟩;simp only[dX,dY]at hset;subst hset;have a4:x∈l:=a1.mem_iff.1 (dR _ (dM _ (.head _)));refine aA AQ ?_;refine J.nss (bF rfl (fun a5=>?_) (fun a5=>aC (aY (bG rfl) a5)));refine bC (aT (aS (Cj.sr (aA (UM (kv:=(fun a:List UInt8=>str a)) (l:=l) rfl rfl (yR.at 0 rfl) (bZ A) a4 a0.2.1) ?_))));refine aA AQ ?_;refine dQ 10 rfl (show _= .agg (CW (φ x)).toArray from hφ x a4) ?_;refine aG rfl (BP NS ?_);intro _ _;refine aG rfl (zS 0 IQ (aF (aF aW)) bD ?_);refine J.yV (aA yP ?_);refine aA (zX YV IQ (yR.at 0 rfl)) ?_;refine J.yield [_,_] rfl rfl rfl rfl rfl rfl (a9 vis [_] (vis++[x]) _ HY ⟨x,O,b3z a1,rfl,rfl⟩ hY) ?_ (fun _ _ _ h=>by rcases h with⟨h,_⟩|⟨h,_⟩<;>cases h) (fun _ _ h=>by rcases h with⟨h,_⟩|⟨h,_⟩<;>cases h);intro v3 I3 H3 a2 ac;have G:=a2 _ _ G;have A:=a2 _ _ A;obtain⟨_,h3,a6⟩:∃t:Bool,v3= .bool t∧((t=true∧Y (vis++[x]) I3 H3)∨(t=false∧Z I3 H3)):=by
   rcases ac with⟨h,h2⟩|⟨h,h2⟩
   ·cases h;exact⟨true,rfl,.inl ⟨rfl,h2⟩⟩
   cases h;exact⟨false,rfl,.inr ⟨rfl,h2⟩⟩
  subst h3;refine aA (ER rfl rfl) ?_;refine J.cd (fun a3=>?_) (fun a3=>?_)
  ·have ad:Z I3 H3:=by
    rcases a6 with⟨rfl,_⟩|⟨_,h⟩
    ·exact aC a3
    exact h
   refine aU (dZ (Ej.OX (dZ (bP (H':=H3) (aZ _ (aZ _ (bT _))) ?_))));exact Ej.b2J rfl rfl ⟨rfl,.inr ad⟩
  have ae:Y (vis++[x]) I3 H3:=by
   rcases a6 with⟨_,h⟩|⟨rfl,_⟩
   ·exact h
   exact aC a3
  refine bC (aN (bP (aH (dN bY)) ?_));refine Ej.round ⟨vis++[x],O,_,H3⟩ ⟨a1,⟨G,A⟩,ae⟩ (by have h:=ab.length_eq;simp only[aP]at h;dsimp only;omega) rT rfl rfl
 intro a8;have af:vis.Perm l:=by rw[a8,aI]at hp;exact hp
 refine aA AQ ?_;refine J.nss (bF rfl (fun a7=>aC (aY (bG rfl) a7)) (fun a7=>?_));refine eF (bI (Ej.JK (dB (bP (H':=HY) (aZ _ (bT _)) ?_))));refine Ej.TK rfl rfl ⟨rfl,.inl ⟨vis,af,hY⟩⟩
theorem b7D m I:yT aB 91 [.map m] I [] (fun e _ H'=>∃b,e= .returned (.func (.func 158) #[] #[ptr b 0])∧H'=[(b,yY 186 [.map m])]):=by
 refine yT.ob func91 ?_;intro w0 _;refine Cj.sr (aG rfl (BL ?_));intro h _;refine aA yQ ?_;refine J.yV (aA (EH rfl rfl rfl) ?_);refine aA yQ ?_;refine J.ns (aU (zN ?_));exact⟨h,rfl,rfl⟩
theorem b0W A φ f G O I (hl:A.length≤1000000000000)(Z:a2n aB f G O I ([]:ML (List UInt8)) (nxM A fun p=> .agg (CW (φ p)).toArray) (fun s=>s.Perm A)):yT aB 211 [.slice none 0 0,.func (.func f) G.toArray O.toArray] I []
 (fun e _ H'=>∃(zs:List (Bk.Ln)) (g:Gs),zs.Perm (A.map φ)∧CU 0 2 zs.length (zs.flatMap CW) g∧e= .returned (gV zs.length g)∧H'=gH 80 (zs.flatMap CW) g):=by
 refine yT.ZR func211 rfl dE (dP rfl) ?_;intro w0 _;refine Cj.sr (aG rfl (BL ?_));intro b1 _;refine aA yQ ?_;refine J.AO (aK (aA yP ?_));refine J.ns (aS (Cj.a3L (ps:=[7]) (H1:=[_]) (R:=[]) ([]:ML (List UInt8)) (nxM A fun p=> .agg (CW (φ p)).toArray) (fun s=>s.Perm A) (fun vis _ H'=>∃g,CU 0 2 vis.length ((vis.map φ).flatMap CW) g∧H'=(b1,yY 77 [gV vis.length g])::gH 80 ((vis.map φ).flatMap CW) g) (fun _ _ _=>False) rfl (a2E rfl) b4K rfl Z (fun _ _ _ _ _ h=>h) ⟨none,⟨rfl,rfl⟩,rfl⟩ ?_ ?_ ?_))
 ·intro l r k args _ _ _ _ hk a1 hY;obtain⟨_,_,a2,rfl,rfl⟩:=hk;obtain⟨g,hg,rfl⟩:=hY;have a4:=b4Y a2;refine aK (aG rfl (BP NS ?_));intro _ _;refine aG rfl (zS 0 IQ (aF (aF aW)) bD ?_);refine J.nil (fB (fG dW) ?_);refine Ej.asg ?_;refine aS (aK (aA (yX isAgg77 (yR.at 2 rfl)) ?_));refine aA (zX YV IQ (yR.at 1 rfl)) ?_;refine aG rfl (AZ KL IQ NS (CG.agg rfl dV) ?_);intro _ _;refine aG rfl (MB 0 (cO _) (by':=23) [_,_,_,_] rfl rfl rfl rfl rfl KL (.inr ⟨_,KL⟩) kR IQ NS rfl hg rfl (Src.slice (yR.at 0 rfl) rfl rfl rfl) oM ?_);intro _ a3;refine aG rfl (EM 3 rfl rfl rfl rfl (KR _ _) (QO _ _) sizeOf77 rfl rfl (aF aW) (bM (bM (bM bD))) ?_);refine J.nil (aN (fB (fG dW) ?_));refine bP (dN (aH (aH (dN bY)))) ?_;exact Ej.a3D ⟨_,by rw[a1V,aO];exact a3,by rw[a1V,aO];rfl⟩
 ·intro _ sE _ _ a0 a1 hY;obtain⟨g,hg,rfl⟩:=hY;refine aN (aT (Cj.sr (aA (yX isAgg77 (yR.at 1 rfl)) ?_)));refine aA yQ ?_;refine J.ns (aU (Ej.a2G (.inl rfl) ?_));refine QM.mark 0 rfl bD ?_;refine QM.keep (aH (aH bY)) ?_;exact QM.a6L rfl rfl ⟨sE.map φ,g,a0.map φ,by rw[aJ];exact hg,by rw[aJ],aI _⟩
 exact fun _ _ _ _ _ hZ=>hZ.elim
theorem b4e A φ f G O I (hl:A.length≤1000000000000)(Z:a2n aB f G O I ([]:ML (List UInt8)) (nxM A fun p=> .agg (CW (φ p)).toArray) (fun s=>s.Perm A)):yT aB 156 [.func (.func f) G.toArray O.toArray] I []
 (fun e _ H'=>∃(zs:List (Bk.Ln)) (g:Gs),zs.Perm (A.map φ)∧CU 0 2 zs.length (zs.flatMap CW) g∧e= .returned (gV zs.length g)∧H'=gH 80 (zs.flatMap CW) g):=by
 refine yT.ob func156 ?_;intro w0 _;refine Cj.sr (aA yQ ?_);refine J.yV (aA yP ?_);refine aG rfl (yS (H1:=[]) rfl rfl rfl rfl rfl (b0W A φ f G O _ hl Z) ?_ (fun _ _ _ _ ⟨_,_,_,_,h,_⟩=>by cases h) (fun _ _ ⟨_,_,_,_,h,_⟩=>by cases h));intro _ _ _ _ a0;obtain⟨zs,g,a1,hg,h,rfl⟩:=a0;cases h;refine aA yQ ?_;refine J.ns (aU (zN ?_));exact⟨zs,g,a1,hg,rfl,aI _⟩
theorem b6u A φ f G O I (hl:A.length≤1000000000000)(a2:a2n aB f G O I ([]:ML (List UInt8)) (nxM A fun p=> .agg (CW (φ p)).toArray) (fun s=>s.Perm A)):yT aB 90 [.func (.func f) G.toArray O.toArray,.func (.func 53) #[] #[]] I []
 (fun e _ H'=>∃(ls:List (Bk.Ln)) (g:Gs),ls.Perm (A.map φ)∧ls.Pairwise (fun p q=>¬q.1<p.1)∧CU 0 2 ls.length (ls.flatMap CW) g∧e= .returned (gV ls.length g)∧H'=gH 80 (ls.flatMap CW) g):=by
 refine yT.ob func90 ?_;intro w0 _;refine Cj.sr (aA yQ ?_);refine J.yV (aA yP ?_);refine aG rfl (yS (H1:=[]) rfl rfl rfl rfl rfl (b4e A φ f G O _ hl a2) ?_ (fun _ _ _ _ ⟨_,_,_,_,h,_⟩=>by cases h) (fun _ _ ⟨_,_,_,_,h,_⟩=>by cases h));intro _ _ _ _ a3;obtain⟨zs,g,a0,hg,h,rfl⟩:=a3;cases h;refine J.perm (H':=gH _ _ g) (.of_eq (aI _).symm) ?_;refine aA yQ ?_;refine J.yV (aA yP ?_);refine aA yP ?_;refine aG rfl (FV (H1:=gH 80 (zs.flatMap CW) g) [] rfl rfl rfl rfl rfl rfl (c0e zs g hg (by have:=a0.length_eq;rw[aJ]at this;omega) _) ?_ (fun _ _ _ _ h=>by obtain⟨_,_,_,h,_⟩:=h;cases h) (fun _ _ h=>by obtain⟨_,_,_,h,_⟩:=h;cases h));rintro _ _ _ _ ⟨ls,a1,a4,h,rfl⟩;cases h;have Z:zs.length=ls.length:=a1.length_eq.symm;refine J.yV (aA yP ?_);refine aA yQ ?_;refine J.ns (aU (zN ?_));rw[Z];exact⟨ls,g,a1.trans a0,a4,VI (Z▸hg) (by rw[DN GH,DN GH,Z]),rfl,rfl⟩
end Go.Proofs.YtojdemmgkdokmaaGreatDoor
namespace Go.Sx
open Go
theorem Ready.dom{I H w}(h:Ready I H w){b}(A:w.heap.size≤b):I b=none:=by
 cases hI:I b with
 |none=>rfl
 |some o=>
  have:=h.1 b o hI;rw[dK A]at this;cases this
theorem St.thaw{w0 w D I0 I H}(h:St w0 D I0 I H w) B (hn:(B.map (·.1)).Nodup)(Z:∀p∈B,I p.1=some p.2)(hs:∀p∈B,w0.heap.size≤p.1)(h0:∀p∈B,I0 p.1=none):St w0 D I0 (hless B I) (B++H) w:=by
 refine⟨h.os,h.tape,h.output,h.size,h.frm,fun b o A=>?_,fun p G=>?_,?_,fun p G=>?_,fun p G=>?_,fun b A=>?_,fun b o A=>?_,h.drw⟩
 ·unfold hless at A
  split at A
  ·cases A
  exact h.sub b o A
 ·rcases bJ.1 G with g|g
  ·exact h.sub _ _ (Z p g)
  exact h.own p g
 ·rw[dJ,List.nodup_append];refine⟨hn,h.nodup,fun x hx y hy he=>?_⟩;obtain⟨p,G,rfl⟩:=aX.1 hx;obtain⟨q,hq,rfl⟩:=aX.1 hy;have:=h.dis q hq;rw[←he,Z p G]at this;cases this
 ·unfold hless
  split
  ·rfl
  rename_i O
  rcases bJ.1 G with g|g
  ·exact absurd (List.mem_map_of_mem g) O
  exact h.dis p g
 ·rcases bJ.1 G with g|g
  ·exact .inr (hs p g)
  exact h.new p g
 ·have O:b ∉ B.map (·.1):=fun O=>by
   obtain⟨p,G,rfl⟩:=aX.1 O;exact absurd A (Nat.not_lt.2 (hs p G))
  rw[a0A O];exact h.ifr b A
 have O:b ∉ B.map (·.1):=fun O=>by
  obtain⟨p,G,rfl⟩:=aX.1 O;rw[h0 p G]at A;cases A
 rw[a0A O];exact h.le b o A
section
variable {cx:Cx} {Q:Qt} {e:Env} {I:Heap} {H:HL}
theorem Cj.old{c}(k:(∀b,b<cx.w0.heap.size→I b=cx.I0 b)→Le cx.I0 I→Cj cx Q c e I H):Cj cx Q c e I H:=
 fun a w h hs=>k hs.ifr hs.le a w h hs
theorem Cj.thaw{c} B (hn:(B.map (·.1)).Nodup)(A:∀p∈B,I p.1=some p.2)(hs:∀p∈B,cx.w0.heap.size≤p.1)(h0:∀p∈B,cx.I0 p.1=none)(k:Cj cx Q c e (hless B I) (B++H)):Cj cx Q c e I H:=
 fun a w G h=>k a w G (h.thaw B hn A hs h0)
end
theorem b1B{B I J}(hd:∀p∈B,I p.1=none)(h:Le I J):Le I (hless B J):=fun b o A=>by
 have G:b ∉ B.map (·.1):=fun G=>by
  obtain⟨p,O,rfl⟩:=aX.1 G;rw[hd p O]at A;cases A
 rw[a0A G];exact h b o A
section
variable {cx:Cx} {Q:Qt} {e:Env} {I:Heap} {H:HL}
end
def KF {α:Type} (N:Nat→Prop) (T:TypeId) (f:α→List Value) (I:Heap) (l:List α) (v:Value):Prop:=
 ∃p c,v= .slice p l.length c∧l.length≤c∧(l≠[]→∃b sp,p=some ⟨b,0,none⟩∧N b∧I b=some (yY T (l.flatMap f++sp)))
section
variable {α:Type} {N M:Nat→Prop} {T:TypeId} {f:α→List Value} {I I':Heap} {l:List α} {v:Value}
theorem KF.mono(h:KF N T f I l v)(A:Le I I'):KF N T f I' l v:=
 let ⟨p,c,h1,h2,h3⟩:=h;⟨p,c,h1,h2,fun hn=>let ⟨b,sp,G,O,Z⟩:=h3 hn;⟨b,sp,G,O,A _ _ Z⟩⟩
theorem KF.imp(h:KF N T f I l v)(A:∀b,N b→M b):KF M T f I l v:=
 let ⟨p,c,h1,h2,h3⟩:=h;⟨p,c,h1,h2,fun hn=>let ⟨b,sp,G,O,Z⟩:=h3 hn;⟨b,sp,G,A b O,Z⟩⟩
theorem KF.rowT(h:KF N T f I l v):SN T f I l v:=
 let ⟨p,c,h1,h2,h3⟩:=h;⟨p,c,h1,h2,fun hn=>let ⟨b,sp,A,_,G⟩:=h3 hn;⟨b,sp,A,G⟩⟩
theorem KF.row(h:KF N T f I l v):zY f I l v:=h.rowT.row
theorem KF.nil:KF N T f I ([]:List α) (.slice none 0 0):=⟨none,0,rfl,aV _,fun h=>absurd rfl h⟩
end
section
variable {cx:Cx} {Q:Qt} {e:Env} {I:Heap} {R:HL} {T:TypeId} {α:Type} {l:List α} {f:α→List Value} {sz n base:Nat} {g:Gs}
theorem a3q{X:Heap→HL→Prop}(hf:∀x,(f x).length=sz)(A:0<sz)(hg:CU base sz n (l.flatMap f) g)(hn:n=l.length)(O:∀b o,base≤b→(∀h,Le I h→h b=some o→X h R)→X I ((b,o)::R))(k:∀h,Le I h→KF (base≤·) T f h l (gV n g)→X h R):X I (gH T (l.flatMap f) g++R):=by
 subst hn;cases g with
 |none=>
  obtain⟨h1,h2⟩:=hg;have:l=[]:=bQ.1 h1;subst this;exact k I (Le.refl _) KF.nil
 |some q=>
  obtain⟨b,c,sp⟩:=q;obtain⟨h1,h2,h3⟩:=hg;have Z:l.length≤c:=by
   rw[DN hf]at h3;exact Nat.le_of_mul_le_mul_right (oM:l.length*sz≤c*sz) A
  exact O b _ h1 fun h G hb=>k h G ⟨_,c,rfl,Z,fun _=>⟨b,sp,rfl,h1,hb⟩⟩
theorem Cj.XZ{c}(hf:∀x,(f x).length=sz)(h:0<sz)(hg:CU cx.w0.heap.size sz n (l.flatMap f) g)(hn:n=l.length)(k:∀A,Le I A→KF (cx.w0.heap.size≤·) T f A l (gV n g)→Cj cx Q c e A R):Cj cx Q c e I (gH T (l.flatMap f) g++R):=
 a3q (X:=fun I H=>Cj cx Q c e I H) hf h hg hn (fun _ _ G k=>Cj.persist G k) k
theorem J.XZ{h r}(hf:∀x,(f x).length=sz)(A:0<sz)(hg:CU cx.w0.heap.size sz n (l.flatMap f) g)(hn:n=l.length)(k:∀G,Le I G→KF (cx.w0.heap.size≤·) T f G l (gV n g)→J cx Q h r e G R):J cx Q h r e I (gH T (l.flatMap f) g++R):=
 a3q (X:=fun I H=>J cx Q h r e I H) hf A hg hn (fun _ _ O k=>J.persist O k) k
theorem Ej.XZ{x}(hf:∀x,(f x).length=sz)(h:0<sz)(hg:CU cx.w0.heap.size sz n (l.flatMap f) g)(hn:n=l.length)(k:∀A,Le I A→KF (cx.w0.heap.size≤·) T f A l (gV n g)→Ej cx Q x e A R):Ej cx Q x e I (gH T (l.flatMap f) g++R):=
 a3q (X:=fun I H=>Ej cx Q x e I H) hf h hg hn (fun _ _ G k=>Ej.persist G k) k
end
theorem Cj.named{h Q e I H c}(k:∀A,A=I→Cj h Q c e A H):Cj h Q c e I H:=k I rfl
section
variable {cx:Cx} {Q:Qt} {e:Env} {I I1:Heap} {H A:HL} {Z:CL} {z:Nat} {l:List Oper} {fuel:Nat} {listed:Array Bool}
theorem JA.join{ι:Type}(a0:ι→Prop)(a1:ι→Env)(hp:ι→Heap)(own:ι→HL) h G (k2:∀y,a0 y→JA cx Q l I1 A Z z G h (a1 y) (hp y) (own y))
 (k1:(∀j O fu e' I' H',a0 j→h=O→G=fu→Sub (a1 j) e'→hp j=I'→own j=H'→JA cx Q l I1 A Z z fu O e' I' H')→JA cx Q l I1 A Z z fuel listed e I H):JA cx Q l I1 A Z z fuel listed e I H:=
 k1 fun j O fu e' I' H' hj hl hf hs hI hH=>by
  subst hl hf hI hH;exact fun a w ha h1=>k2 j hj a w (ha.sub hs) h1
end
section
variable {cx:Cx} {Q:Qt} {e:Env} {I I1:Heap} {R H1 A:HL} {Z:CL} {z:Nat} {ops:List Oper} {fuel:Nat} {listed:Array Bool} {T:TypeId} {α:Type} {l:List α} {f:α→List Value} {v:Value} {sz n:Nat} {g:Gs}
theorem JA.a5B(h:SX T f l v H1)(G:∀p∈H1,cx.w0.heap.size≤p.1)(k:∀O,Le I O→SN T f O l v→JA cx Q ops I1 A Z z fuel listed e O R):JA cx Q ops I1 A Z z fuel listed e I (H1++R):=
 b0e (X:=fun I H=>JA cx Q ops I1 A Z z fuel listed e I H) h G (fun _ _ G k=>eU G k) k
theorem JA.XZ(hf:∀x,(f x).length=sz)(h:0<sz)(hg:CU cx.w0.heap.size sz n (l.flatMap f) g)(hn:n=l.length)(k:∀G,Le I G→KF (cx.w0.heap.size≤·) T f G l (gV n g)→JA cx Q ops I1 A Z z fuel listed e G R):JA cx Q ops I1 A Z z fuel listed e I (gH T (l.flatMap f) g++R):=
 a3q (X:=fun I H=>JA cx Q ops I1 A Z z fuel listed e I H) hf h hg hn (fun _ _ O k=>eU O k) k
theorem JA.persists B (h:∀p∈B,cx.w0.heap.size≤p.1)(k:∀G,Le I G→(∀p∈B,G p.1=some p.2)→JA cx Q ops I1 A Z z fuel listed e G R):JA cx Q ops I1 A Z z fuel listed e I (B++R):=
 a1v (X:=fun I H=>JA cx Q ops I1 A Z z fuel listed e I H) (fun _ _ _ _ h k=>eU h k) B I h k
end
end Go.Sx
namespace Bk
open Ix
def a6P (x:Fd):Fd:=⟨x.t,x.k,x.p.take 4⟩
def c1b (r:List Fd):List Fd:=(r.take 12).map a6P
def a4C (L:List (List Fd)):List (List Fd):=(L.take 6).map c1b
theorem b8N x r:MJ (x::r)=x.p.length+MJ r:=rfl
theorem a8Y{n}:∀{r:List Fd},(∀x∈r,x.p.length≤n)→MJ r≤r.length*n
 |[],_=>cO _
 |x::r,h=>by
  have h1:=a8Y (r:=r) fun y A=>h y (.tail _ A);have h2:=h x (.head _);rw[b8N,aP,Nat.add_mul];omega
theorem a7W:∀{M:List (List Fd)},(∀r∈M,r.length≤12∧∀x∈r,x.p.length≤4)→M.flatten.length≤M.length*12∧MJ M.flatten≤M.length*48
 |[],_=>⟨aV _,aV _⟩
 |r::M,h=>by
  obtain⟨h1,h2⟩:=a7W (M:=M) fun y A=>h y (.tail _ A);obtain⟨h3,G⟩:=h r (.head _);have O:=a8Y G;rw[List.flatten_cons,aO,WC,aP];omega
theorem b6r L:(a4C L).length≤6∧(a4C L).flatten.length≤72∧MJ (a4C L).flatten≤288:=by
 have h0:(a4C L).length≤6:=by unfold a4C;rw[aJ,dH];omega
 obtain⟨h1,h2⟩:=a7W (M:=a4C L) fun r hr=>by
  unfold a4C at hr;obtain⟨s,_,rfl⟩:=aX.1 hr;unfold c1b;refine⟨by rw[aJ,dH];omega,fun x h=>?_⟩;obtain⟨y,_,rfl⟩:=aX.1 h;show(y.p.take 4).length≤4;rw[dH];omega
 omega
theorem b0b n:∀l:List Int,(VZ n l).length≤l.length+1
 |[]=>aV _
 |x::r=>by
  have:=b0b n r;unfold VZ
  split
  ·simp only[aP];omega
  split<;>simp only[aP]<;>omega
theorem a5Y:∀(p l:List Int),(ND l p).length≤l.length+p.length
 |[],_=>aV _
 |n::r,l=>by
  have h1:=a5Y r (VZ n l);have h2:=b0b n l;show(ND (VZ n l) r).length≤_;rw[aP];omega
theorem JR.at{xs r}(h:JR xs r){f}(hf:f∈r):∃g,grp (DF f) xs=some g∧norm g=f:=by
 obtain⟨id,g,hg,hn⟩:=(h.mem f).1 hf;have h1:=a7S hg;rw[←a4n,hn]at h1;exact⟨g,by rw[h1];exact hg,hn⟩
theorem JR.nodup{xs r}(h:JR xs r):(r.map DF).Nodup:=by
 rw[List.nodup_iff_pairwise_ne,List.pairwise_map];refine h.LD.imp_of_mem fun {a b} O Z A e=>?_;obtain⟨g,hg,rfl⟩:=h.at O;obtain⟨_,G,rfl⟩:=h.at Z;rw[e,G]at hg;cases hg;rw[a8M]at A;cases A
theorem b1W{α:Type}[DecidableEq α]:∀{l m:List α},l.Nodup→(∀x∈l,x∈m)→l.length≤m.length
 |[],_,_,_=>cO _
 |a::l,m,hl,h=>by
  have A:=h a (.head _);have h1:=b1W (l:=l) (m:=m.erase a) (eX.1 hl).2 fun x G=>(List.mem_erase_of_ne (fun e:x=a=>(eX.1 hl).1 (by rw[←e];exact G))).2 (h x (.tail _ G));rw[List.length_erase_of_mem A]at h1;have:=List.length_pos_of_mem A;rw[aP];omega
theorem JR.ids{xs r}(h:JR xs r) id:id∈r.map DF↔id∈xs.map DF:=by
 constructor
 ·intro A;obtain⟨f,hf,rfl⟩:=aX.1 A;obtain⟨g,hg,_⟩:=h.at hf;exact b5r xs hg
 intro A;cases hg:grp id xs with
 |none=>
  exfalso
  revert A hg;refine MV (P:=fun xs=>id∈xs.map DF→grp id xs=none→False) (fun h=>by simp at h) (fun ys x G=>?_) xs;intro A hg;rw[XD]at hg;unfold step1 at hg
  split at hg
  ·cases hg
  rename_i O
  rw[dJ,bJ]at A;rcases A with g|g
  ·exact G g hg
  rw[List.map_singleton,bK]at g;exact O g.symm
 |some g=>exact aX.2 ⟨norm g,(h.mem _).2 ⟨id,g,hg,rfl⟩,(a4n g).trans (a7S hg)⟩
theorem JR.len{xs r}(h:JR xs r):r.length≤xs.length:=by
 have:=b1W (l:=r.map DF) (m:=xs.map DF) h.nodup fun id A=>(h.ids id).1 A
 rwa [aJ,aJ]at this
theorem JR.each{xs r}(h:JR xs r):∀f∈r,f.p.length≤MJ xs:=fun f hf=>by
 obtain⟨g,hg,rfl⟩:=h.at hf;have h1:=a8D _ hg;have h2:=a5Y g.p [];show(KU g.p).length≤_;have h3:(KU g.p).length≤0+g.p.length:=h2;omega
theorem JR.bound{xs r}(h:JR xs r)(h1:xs.length≤72)(h2:MJ xs≤288):r.length≤72∧MJ r≤20736∧∀f∈r,f.p.length≤288:=by
 have h3:=h.len;have A:∀f∈r,f.p.length≤288:=fun f hf=>by have:=h.each f hf;omega
 have G:=a8Y A;exact⟨oM,oM,A⟩
