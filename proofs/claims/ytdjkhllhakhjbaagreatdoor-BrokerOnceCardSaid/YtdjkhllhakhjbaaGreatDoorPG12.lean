/-
  Own texts on the laws of the seat, joined: the logic, and contracts of functions. Conditions: none.
-/
import Derived.Test.YtdjkhllhakhjbaaGreatDoorNmG
import Derived.Test.YtdjkhllhakhjbaaGreatDoorPG11
set_option linter.all false
set_option maxRecDepth 100000
set_option maxHeartbeats 40000000
open Go.Sx.J renaming z -> aA,op -> aG,eqv -> dS
open Go.Proofs.Tryz renaming prog -> aB,a8R -> fG
open Bool renaming noConfusion -> aC
open Go.Sx.EW renaming c -> aF,z -> aX,s -> dH
open List renaming length_cons -> aH,append_nil -> aJ,length_map -> aK,length_append -> aN,pairwise_cons -> aW,mem_cons -> bF,mem_singleton -> bI,length_eq_zero_iff -> bQ,length_take -> dI,mem_map -> dJ,pairwise_singleton -> dK,mem_append_right -> dP,mem_append_left -> dU,set_cons_zero -> eH,set_cons_succ -> eP,foldl_append -> fA,append_assoc -> fB,mem_append -> fD,map_append -> fE,nodup_cons -> fF,replicate -> fH
open Go.Sx.Keeps renaming d -> aI,r -> bZ,k -> dQ,n -> eY
open Go.Sx.Cj renaming region -> aO,block -> aS,ret -> aV,skip -> bC,cond -> bG,seq -> dY,exit -> eX,rounds -> fK
open Go.Sx.Ej renaming FM -> aP,seq -> aU,JE -> bK,keep -> bP,a9Y -> dA,rounds -> dB,JM -> dD,OY -> eU,pull -> fJ
open Go.Lib renaming compact -> aQ
open Nat renaming le_refl -> aT,min_le_left -> bY,zero_le -> cZ,lt_or_ge -> dF,le_of_ble_eq_true -> dR
open Eq renaming trans -> aY,symm -> bH
open List.Sublist renaming cons -> aZ,refl -> bT
open Go.Sx.DZ renaming z -> bD,s -> bM
open Go.Sx.Enters renaming of -> bJ
open Std renaming lt_irrefl -> bU,lt_trans -> dV,lt_of_le_of_ne -> dW
open Go.Sx.Rj renaming succ -> bV
open Go.Sx.yS renaming toPure -> bW
open Go.Sx.yR renaming PL -> cO
open Go.Sx.Pure renaming of_same -> dG
open Go.Value renaming int -> dL
open Array renaming getElem?_eq_none -> dM
open Bk renaming Idn -> dN,a0Y -> fO
open Int renaming zero_add -> dX
open Go.Sx.KP renaming part -> dZ,none -> fM
open Go.Sx.IC renaming none -> eF,one -> fC
open Go.Sx.Pull renaming z -> eG,s -> fQ
open Ix renaming FZ -> fP
namespace Bk
def W (n:Int):Int:=(n+9223372036854775808) % 18446744073709551616-9223372036854775808
abbrev Ln:=List UInt8×Int
def a1q (k:List UInt8) (o:Option Int) (x:Ln):Option Int:=if x.1=k then some (match o with|none=>x.2|some y=>W (y+x.2))else o
def a5Z (k:List UInt8) (xs:List Ln):Option Int:=xs.foldl (a1q k) none
theorem a4p k xs x:a5Z k (xs++[x])=a1q k (a5Z k xs) x:=by
 unfold a5Z;rw[fA];rfl
def XP (k:List UInt8):List Ln→Option Int
 |[]=>none
 |y::r=>if y.1=k then some y.2 else XP k r
structure IsS (xs r:List Ln):Prop where
  KQ:r.Pairwise fun a b=>a.1<b.1
  mem:∀x,x∈r↔a5Z x.1 xs=some x.2
theorem IsS.uniq{xs r s}(h:IsS xs r)(g:IsS xs s):r=s:=
 Bk.uniq (R:=fun a b:Ln=>a.1<b.1) (fun _ h=>bU h) (fun _ _ _ h k=>dV h k) h.KQ g.KQ fun x=>(h.mem x).trans (g.mem x).symm
theorem c0u{r}(h:r.Pairwise fun a b=>a.1<b.1) x:x∈r↔XP x.1 r=some x.2:=by
 induction r with
 |nil=>simp[XP]
 |cons y r G=>
  have A:=aW.1 h;unfold XP
  by_cases hy:y.1=x.1
  ·rw[zG hy,bF,Option.some_inj];constructor
   ·rintro(rfl|N)
    ·rfl
    exact absurd (A.1 x N) (by rw[hy];exact bU)
   exact fun e=> .inl (Prod.ext hy.symm e.symm)
  rw[zF hy,bF,G A.2];exact⟨fun e=>e.resolve_left fun e=>hy (by rw[e]),.inr⟩
theorem IsS.c4J{xs r}(h:r.Pairwise fun a b=>a.1<b.1)(g:∀k,XP k r=a5Z k xs):IsS xs r:=⟨h,fun x=>(c0u h x).trans (by rw[g])⟩
def QO:List Ln→Ln→List Ln
 |[],x=>[x]
 |y::r,x=>if y.1<x.1 then y::QO r x else if y.1=x.1 then(y.1,W (y.2+x.2))::r else x::y::r
def allL (xs:List Ln):List Ln:=xs.foldl QO []
theorem ZB xs x:allL (xs++[x])=QO (allL xs) x:=by unfold allL;rw[fA];rfl
theorem a8D x:∀(r:List Ln) (z:Ln),z∈QO r x→z.1=x.1∨∃y∈r,y.1=z.1
 |[],z,h=> .inl (by rw[bI.1 h])
 |y::r,z,h=>by
  unfold QO at h
  split at h
  ·rcases bF.1 h with rfl|h
   ·exact .inr ⟨_,.head _,rfl⟩
   rcases a8D x r z h with g|⟨w,A,G⟩
   ·exact .inl g
   exact .inr ⟨w,.tail _ A,G⟩
  split at h
  ·rcases bF.1 h with rfl|h
   ·exact .inr ⟨y,.head _,rfl⟩
   exact .inr ⟨z,.tail _ h,rfl⟩
  rcases bF.1 h with rfl|h
  ·exact .inl rfl
  exact .inr ⟨z,h,rfl⟩
theorem a3n{a b:List UInt8}(A:¬a<b)(h:a≠b):b<a:=by
 rcases Std.le_total (a:=a) (b:=b)with g|g
 ·exact absurd (dW g h) A
 exact dW g (Ne.symm h)
theorem b1K x:∀r:List Ln,(r.Pairwise fun a b=>a.1<b.1)→(QO r x).Pairwise fun a b=>a.1<b.1
 |[],_=>dK _ _
 |y::r,h=>by
  have A:=aW.1 h;unfold QO
  split
  ·rename_i N
   refine aW.2 ⟨fun z hz=>?_,b1K x r A.2⟩;rcases a8D x r z hz with g|⟨w,O,Q⟩
   ·rw[g];exact N
   rw[←Q];exact A.1 w O
  split
  ·exact aW.2 ⟨A.1,A.2⟩
  rename_i Z h2
  have G:=a3n Z h2;refine aW.2 ⟨fun z hz=>?_,h⟩;rcases bF.1 hz with rfl|hz
  ·exact G
  exact dV G (A.1 z hz)
theorem b8o{k r}(h:∀y∈r,y.1≠k):XP k r=none:=by
 induction r with
 |nil=>rfl
 |cons y r A=>
  unfold XP;rw[zF (h y (.head _))];exact A fun z hz=>h z (.tail _ hz)
theorem b0v k x:∀r:List Ln,(r.Pairwise fun a b=>a.1<b.1)→XP k (QO r x)=a1q k (XP k r) x
 |[],_=>by
  show(if x.1=k then some x.2 else none)=_;unfold a1q;rfl
 |y::r,h=>by
  have N:=aW.1 h;have Z:=b0v k x r N.2;unfold QO
  split
  ·rename_i O
   unfold XP
   by_cases hk:y.1=k
   ·rw[zG hk,zG hk];unfold a1q;rw[zF];intro e;rw[hk,e]at O;exact bU O
   rw[zF hk,zF hk,Z]
  split
  ·rename_i Q A
   unfold XP a1q
   by_cases hk:y.1=k
   ·rw[zG hk,zG hk,zG (A.symm.trans hk)]
   rw[zF hk,zF hk,zF (fun e=>hk (A.trans e))]
  rename_i Q A
  have G:=a3n Q A;show(if x.1=k then some x.2 else XP k (y::r))=_;unfold a1q
  by_cases hk:x.1=k
  ·rw[zG hk,zG hk,b8o];intro z hz e;rcases bF.1 hz with rfl|hz
   ·rw[e,←hk]at G;exact bU G
   have:=dV G (N.1 z hz);rw[e,←hk]at this;exact bU this
  rw[zF hk,zF hk]
theorem b0s xs:(allL xs).Pairwise fun a b=>a.1<b.1:=
 KW (P:=fun xs=>(allL xs).Pairwise fun a b=>a.1<b.1) .nil (fun xs x h=>by rw[ZB];exact b1K x _ h) xs
theorem b9j xs:IsS xs (allL xs):=
 IsS.c4J (b0s xs) fun k=>KW (P:=fun xs=>XP k (allL xs)=a5Z k xs) rfl (fun xs x h=>by rw[ZB,b0v k x _ (b0s xs),h,a4p]) xs
theorem b0j x:∀r:List Ln,(QO r x).length≤r.length+1
 |[]=>aT _
 |y::r=>by
  have:=b0j x r;unfold QO
  split
  ·simp only[aH];omega
  split<;>simp only[aH]<;>omega
theorem b2s xs:(allL xs).length≤xs.length:=
 KW (P:=fun xs=>(allL xs).length≤xs.length) (aT _) (fun xs x _=>by rw[ZB,aN];have:=b0j x (allL xs);simp only[aH,List.length_nil];omega) xs
def tot (l:List Ln):Int:=l.foldl (fun s y=>W (s+y.2)) 0
def raw:List Ln→Int
 |[]=>0
 |y::r=>y.2+raw r
theorem b0g a b:W (W a+b)=W (a+b):=by unfold W;omega
theorem c2d a b:W (a+W b)=W (a+b):=by unfold W;omega
theorem b0X:∀(l:List Ln) (s:Int),l.foldl (fun s y=>W (s+y.2)) (W s)=W (s+raw l)
 |[],s=>by simp[raw]
 |y::l,s=>by
  show l.foldl (fun s y=>W (s+y.2)) (W (W s+y.2))=_;rw[b0g,b0X l (s+y.2)]
  congr 1
  show s+y.2+raw l=s+(y.2+raw l);omega
theorem b4m l:tot l=W (raw l):=by
 have:=b0X l 0;rw[show W 0=0 from rfl,dX]at this;exact this
theorem b9M l x:raw (l++[x])=raw l+x.2:=by
 induction l with
 |nil=>simp[raw]
 |cons y l h=>
  show y.2+raw (l++[x])=y.2+raw l+x.2;rw[h];omega
theorem b4j x:∀(r:List Ln) (c:Int),W (c+raw (QO r x))=W (c+(raw r+x.2))
 |[],c=>by simp[QO,raw]
 |y::r,c=>by
  unfold QO
  split
  ·show W (c+(y.2+raw (QO r x)))=W (c+(y.2+raw r+x.2));have:=b4j x r (c+y.2);rw[show c+(y.2+raw (QO r x))=c+y.2+raw (QO r x) by omega,this]
   congr 1;omega
  split
  ·show W (c+(W (y.2+x.2)+raw r))=W (c+(y.2+raw r+x.2));rw[show c+(W (y.2+x.2)+raw r)=(c+raw r)+W (y.2+x.2) by omega,c2d]
   congr 1;omega
  show W (c+(x.2+(y.2+raw r)))=W (c+(y.2+raw r+x.2))
  congr 1;omega
theorem c2V xs:W (raw (allL xs))=W (raw xs):=
 KW (P:=fun xs=>W (raw (allL xs))=W (raw xs)) rfl (fun xs x A=>by
  have h:=b4j x (allL xs) 0;rw[dX,dX]at h;rw[ZB,h,b9M,←b0g,A,b0g]) xs
theorem b4i xs:tot (allL xs)=tot xs:=by rw[b4m,b4m,c2V]
end Bk
namespace Bk
open Go.Lib in
theorem SB(d:Array Int)(hs:∀i j,i<j→j<d.size→d[i]! ≤d[j]!):∀m,m≤d.size→(compactUpTo d m).Pairwise (· <·)∧∀x,x∈compactUpTo d m↔∃j,j<m∧x=d[j]!
 |0,_=>⟨List.Pairwise.nil,fun x=>by simp[compactUpTo]⟩
 |m+1,hm=>by
  obtain⟨O,N⟩:=SB d hs m oM;rw[compactUpTo_succ]
  by_cases hk:keeps d m=true
  ·rw[zG hk];refine⟨List.pairwise_append.2 ⟨O,dK _ _,fun a ha b hb=>?_⟩,fun x=>?_⟩
   ·rw[bI.1 hb];obtain⟨j,G,rfl⟩:=(N a).1 ha;have A:m=0∨d[m]! ≠d[m-1]! :=zA hk;have a0:=A.resolve_left oM;have h3:d[m-1]! ≤d[m]! :=hs _ _ oM oM;have h4:d[m-1]! <d[m]! :=oM;rcases dF j (m-1)with h|h
    ·have Q:d[j]! ≤d[m-1]! :=hs _ _ h oM;omega
    have:j=m-1:=oM;rw[this];exact h4
   rw[fD,N,bI];constructor
   ·rintro(⟨j,G,rfl⟩|rfl)
    ·exact⟨j,oM,rfl⟩
    exact⟨m,oM,rfl⟩
   rintro⟨j,G,rfl⟩;rcases dF j m with h|h
   ·exact .inl ⟨j,h,rfl⟩
   have:j=m:=oM;exact .inr (by rw[this])
  rw[zF hk,aJ];refine⟨O,fun x=>(N x).trans ⟨fun⟨j,G,e⟩=>⟨j,oM,e⟩,fun⟨j,G,e⟩=>?_⟩⟩;rcases dF j m with h|h
  ·exact⟨j,h,e⟩
  have A:¬(m=0∨d[m]! ≠d[m-1]!):=fun e=>hk (zI e);have Z:j=m:=oM;subst Z;have Q:d[j]! =d[j-1]! :=Decidable.not_not.1 fun e=>A (.inr e);have h6:j≠0:=fun e=>A (.inl e);exact⟨j-1,oM,e.trans Q⟩
theorem XU(l:List Int):aQ (l.mergeSort fun x y=>decide (x≤y))=IY l:=by
 have hp:(l.mergeSort fun x y=>decide (x≤y)).Pairwise (fun a b=>decide (a≤b)=true):=
  List.pairwise_mergeSort (le:=fun x y:Int=>decide (x≤y)) (fun a b c h1 G=>zI (Int.le_trans (zA h1) (zA G))) (fun a b=>by
   rcases Int.le_total a b with h|h<;>simp[h]) l
 have O:=SB (l.mergeSort fun x y=>decide (x≤y)).toArray (fun i j N A=>by
  have Q:j<(l.mergeSort fun x y=>decide (x≤y)).length:=by simpa using A
  have Z:i<(l.mergeSort fun x y=>decide (x≤y)).toArray.size:=Nat.lt_trans N A;rw[getElem!_pos _ i Z,getElem!_pos _ j A];simp only[List.getElem_toArray];exact zA (List.pairwise_iff_getElem.1 hp i j oM Q N)) _ (aT _)
 refine a0d ?_ fun x=>?_
 ·unfold aQ;simpa using O.1
 have G:=O.2 x;simp only[List.size_toArray]at G;unfold aQ;rw[G];have hm:x∈l↔x∈l.mergeSort fun x y=>decide (x≤y):=List.mem_mergeSort.symm;rw[hm,List.mem_iff_getElem];constructor
 ·rintro⟨j,A,rfl⟩;refine⟨j,A,?_⟩;rw[getElem!_pos _ j (by simpa using A)];simp
 rintro⟨j,A,rfl⟩;refine⟨j,A,?_⟩;rw[getElem!_pos _ j (by simpa using A)];simp
end Bk
namespace Go.Proofs.YtdjkhllhakhjbaaGreatDoor
open _root_.Go.Proofs.Tryz
open Go Go.Sx
abbrev FI (n:Int):List Value:=[i64 n]
theorem GX n:(FI n).length=1:=rfl
theorem TQ n:(FI n).all Value.oneCell'=true:=rfl
theorem a8f(l:List Int):l.flatMap FI=l.map i64:=by induction l with|nil=>rfl|cons a l h=>rw[List.flatMap_cons,h];rfl
abbrev kvI (a:dN):Value:= .agg #[str a.1,i64 a.2.1,i64 a.2.2]
theorem b5d:GU aB 62 kvI:=GU.c3W underlying62 kR dE dE rfl rfl rfl rfl BU BR XJ kR dE dE rfl rfl rfl rfl tU3 FY DJ AL
theorem b6o{w I T g X}(h:St w [] I I [] w)(A:X.size=g*1):RR w [] I (fun e _ H'=>∃g,e= .returned (gV 0 g)∧BM 0 1 0 [] g∧H'=gH T [] g) (.returned (.slice (some ⟨w.heap.size,0,none⟩) 0 g)) (w.drew.alloc (.cells X T)):=
 have e:Obj.cells X T=yZ T ([]++X.toList):=by simp[yZ]
 ⟨I,[(w.heap.size,yZ T ([]++X.toList))],e▸(h.drewN (w.drawn+1)).alloc (.cells X T),some (w.heap.size,g,X.toList),rfl,⟨cZ _,rfl,by simpa using A⟩,rfl⟩
theorem b9R(n:Nat)(Q:0<n)(Z:n≤1000000000) I:yS aB 44 [.slice none 0 0,i64 (n:Int)] I [] (fun e _ H'=>∃g,e= .returned (gV 0 g)∧BM 0 1 0 [] g∧H'=gH 3 [] g):=by
 refine⟨bJ func44 dE rfl,fun w A=>?_⟩;have h:=Any8.slices_Grow_grow Tryz.growI _ _ rfl rfl dE none 0 0 n [] w (aT _) oM (by show(0+n)*8≤_;omega) oM rfl (fun _=>rfl) (fun a O=>by cases O);refine h.mono ?_;rintro e w' ⟨rfl,rfl⟩;have G:=St.start w I [] A.1 A.2.1 A.2.2.1 A.2.2.2;have N:=grownCap_ge w (0+n) 0 (fG.t 25);generalize grownCap w (0+n) 0 (fG.t 25)=g at N ⊢;refine b6o G ?_;simp[Builtin.zeroCells,Value.cells];omega
theorem b9K{base}(l:List Int) g (hg:BM base 1 l.length (l.flatMap FI) g)(hl:l.length≤100000000000000) I:yS aB 28 [gV l.length g] I (gH 3 (l.flatMap FI) g)
 (fun e _ H'=>e= .returned (.tuple #[])∧H'=gH 3 ((l.mergeSort fun x y=>decide (x≤y)).flatMap FI) g):=by
 rw[a8f]at *;rw[a8f];cases g with
 |none=>
  obtain⟨A,N⟩:=hg;have Z:l=[]:=bQ.1 A;subst Z;exact(dG (bJ func28 dE rfl) (fun w _=>Tryz.slices_Sort_int_none none 0 w)).mono fun e _ H' _ ⟨A,_,h3⟩=>⟨A,h3⟩
 |some q=>
  obtain⟨b,c,sp⟩:=q;refine⟨bJ func28 dE rfl,fun w O=>?_⟩;have G:=O.2.1 _ (.head _);have Q:b<w.heap.size:=by
   rcases dF b w.heap.size with h|h
   ·exact h
   rw[dM h]at G;cases G
  exact(Tryz.slices_Sort_int b 0 c l w (a7e (enc:=dL .i64) G) Q oM).mono fun e w' ⟨A,n,os,N⟩=>⟨I,_,N▸St.c4h (enc:=dL .i64) n os O sI,A,rfl⟩
theorem b2w{base} l g (hg:BM base 1 l.length (l.flatMap FI) g)(hl:l.length≤100000000000000) I:yS aB 29 [gV l.length g] I (gH 3 (l.flatMap FI) g)
 (fun e _ H'=>∃G,BM base 1 (aQ l).length ((aQ l).flatMap FI) G∧e= .returned (gV (aQ l).length G)∧H'=gH 3 ((aQ l).flatMap FI) G):=by
 simp only[a8f]at *;cases g with
 |none=>
  obtain⟨h,N⟩:=hg;have Q:l=[]:=bQ.1 h;subst Q;exact(dG (bJ func29 dE rfl) (fun w _=>Tryz.slices_Compact_int_empty none 0 w)).mono fun e _ H' _ ⟨h,_,A⟩=>⟨none,⟨rfl,rfl⟩,h,A⟩
 |some q=>
  obtain⟨b,c,sp⟩:=q;obtain⟨Z,g2,g3⟩:=hg;rw[aK]at g2 g3;have a0:=Lib.compact_length_le l;refine⟨bJ func29 dE rfl,fun w O=>?_⟩;refine(Tryz.slices_Compact_int b 0 c l w (a7e (enc:=dL .i64) (O.2.1 _ (.head _))) oM oM).mono fun e w' ⟨h,n,N⟩=>?_;have A:=St.c4h (enc:=dL .i64) (l':=aQ l++fH (l.length-(aQ l).length) 0) n #[] O (by simp;omega);rw[Go.Sort.grow_empty,←N,fE,fB]at A;refine⟨I,_,A,some (b,c,(fH (l.length-(aQ l).length) 0).map i64++sp),⟨Z,sI,by simp;omega⟩,h,rfl⟩
def b6e:Value→Prop
 | .slice (some a) _ _=>a.spot=none
 |_=>True
def a1F (I:Heap) (l:List Int) (v:Value):Prop:=zN FI I l v∧b6e v
theorem a1F.mono{I A l v}(h:a1F I l v)(G:Le I A):a1F A l v:=⟨h.1.mono G,h.2⟩
theorem a4J n g:b6e (gV n g):=by cases g with|none=>trivial|some q=>rfl
theorem b7n l v (hl:l.length≤1000000000) I (Q:a1F I l v):yS aB 27 [v] I [] (fun e _ H'=>∃g,BM 0 1 l.length (l.flatMap FI) g∧e= .returned (gV l.length g)∧H'=gH 3 (l.flatMap FI) g):=by
 obtain⟨⟨p,c,rfl,_,N⟩,hf⟩:=Q;cases p with
 |none=>
  have O:l=[]:=by
   refine Classical.byContradiction fun h=>?_;obtain⟨b,o,cs,t,fr,sp,A,_⟩:=N h;cases A
  subst O;exact(dG (bJ func27 dE rfl) (fun w _=>Tryz.slices_Clone_nil 0 c w)).mono fun e _ H' _ ⟨A,_,Z⟩=>⟨none,⟨rfl,rfl⟩,A,Z⟩
 |some a=>
  obtain⟨b,o,s⟩:=a;have hs:s=none:=hf;subst hs;refine yS.c4m (bJ func27 dE rfl) fun w hw=>?_;refine Tryz.slices_Clone _ (i64 0) 1 8 rfl rfl rfl rfl rfl dE BO b o l.length c (l.flatMap FI) w (by rw[BP GX]) (by unfold maxLen;omega) oM (fun j u G=>?_) fun u G=>?_
  ·have h:l≠[]:=fun e=>by subst e;cases G
   obtain⟨_,o',cs,t,fr,sp,A,hb,hd⟩:=N h;cases A;refine cell_of_heap (hw _ _ hb) ?_;have h2:(cs.drop o)[j]?=some u:=by
    rw[hd,List.getElem?_append_left (List.getElem?_eq_some_iff.1 G).1];exact G
   rwa [List.getElem?_drop]at h2
  obtain⟨n,_,hn⟩:=List.mem_flatMap.1 G;rw[bI.1 hn];rfl
def ZF (I:Heap) (x:Fv):Prop:=a1F I x.f.p x.v
theorem ZF.mono{I A x}(h:ZF I x)(G:Le I A):ZF A x:=a1F.mono h G
theorem rowLen{α:Type}{f:α→List Value}{I:Heap}{l:List α}{v:Value}(h:zN f I l v):∃p c,v= .slice p l.length c:=let ⟨p,c,A,_⟩:=h;⟨p,c,A⟩
theorem a1F.len{I l v}(h:a1F I l v):∃p c,v= .slice p l.length c:=rowLen h.1
theorem b6E I:Pure aB 44 [.slice none 0 0,i64 0] I (.slice none 0 0):=
 dG (bJ func44 dE rfl) fun w _=>(Any8.slices_Grow_room Tryz.growI none 0 0 0 w dE dE dE dE)
theorem a6s l m v1 v2 vb (hl:l.length+m.length≤1000000000) I (O:zN FI I l v1)(Q:zN FI I m v2):
 yS aB 23 [.slice (some ⟨vb,0,none⟩) 2 2] I [(vb,yZ 35 [v1,v2])] (fun e I' H'=>∃w,e= .returned w∧a1F I' (l++m) w∧H'=[]):=by
 obtain⟨p1,c1,rfl,Z,-⟩:=id O;obtain⟨p2,_,rfl,G,-⟩:=id Q;refine yS.ob func23 ?_;intro w0 _;refine Cj.sr (aA yQ ?_);refine J.yX (aA yQ ?_);refine J.zX (aO (aA yP ?_));refine aA (zZ WZ) ?_;refine aA yP ?_;refine J.ns (aS (fK 3 ?_));refine bV ?_;refine Cj.sr (aA AV ?_);refine J.nss (bG rfl (fun Z=>?_) (fun Z=>aC (aY (bH (by first|rfl|decide)) Z)));refine bC (aU (dY (aS (Cj.sr (aA (EL (off':=0) rfl rfl rfl WZ EZ dE dE dE) ?_)))));refine aA (yV KX (yR.at 0 rfl)) ?_;refine aA yQ ?_;refine J.yX (aA yP ?_);refine aA yP ?_;refine aA (zZ ES) ?_;refine aA (yY rfl rfl rfl (zV oM)) ?_;refine aA yQ ?_;refine J.yX (aA yP ?_);refine aA AV ?_;refine J.cd (fun G=>?_) (fun G=>?_)
 ·have aa:=BH G;omega
 have aa:=BJ G;refine bC (aP (aU (aO (aA (yY rfl rfl rfl (zV oM)) ?_))));refine aA yP ?_;refine J.nil (dB ?_);refine bV ?_;refine Cj.sr (aA AV ?_);refine J.nss (bG rfl (fun a6=>?_) (fun a6=>aC (aY (bH (by first|rfl|decide)) a6)));refine bC (aU (dY (aS (Cj.sr (aA (EL (off':=1) rfl rfl rfl WZ EZ dE dE dE) ?_)))));refine aA (yV KX (yR.at 0 rfl)) ?_;refine aA yQ ?_;refine J.yX (aA yP ?_);refine aA yP ?_;refine aA (zZ ES) ?_;refine aA (yY rfl rfl rfl (zV oM)) ?_;refine aA yQ ?_;refine J.yX (aA yP ?_);refine aA AV ?_;refine J.cd (fun a0=>?_) (fun a0=>?_)
 ·have ab:=BH a0;omega
 have ab:=BJ a0;refine bC (aP (aU (aO (aA (yY rfl rfl rfl (zV oM)) ?_))));refine aA yP ?_;refine J.nil (dB ?_);refine bV ?_;refine Cj.sr (aA AV ?_);refine J.nss (bG rfl (fun a7=>aC (aY (bH (by first|rfl|decide)) a7)) (fun a7=>?_));refine eX (bK (bK (dD (aU (Cj.sr ?_)))));rcases Nat.eq_zero_or_pos (l.length+m.length)with h0|h0
 ·skip
  refine aA yP ?_;refine dS 23 rfl (show _=i64 0 from(zD i64 oM)) ?_;refine aG rfl (yU rfl rfl rfl rfl rfl (b6E _) ?_);refine aA yQ ?_;refine J.zX (aO (aA yP ?_));refine aA (zZ WZ) ?_;refine aA yP ?_;refine J.ns (aS (fK 3 ?_));refine bV ?_;refine Cj.sr (aA AV ?_);refine J.nss (bG rfl (fun a8=>?_) (fun a8=>aC (aY (bH (by first|rfl|decide)) a8)));refine bC (aU (dY (aS (Cj.sr (aA (EL (off':=0) rfl rfl rfl WZ EZ dE dE dE) ?_)))));refine aA (yV KX (yR.at 0 rfl)) ?_;refine aA yQ ?_;refine J.GI (aA yP ?_);refine aA yP ?_;refine aG rfl (BI (by':=7) (n:=0) (g:=none) (xs:=[]) [_] rfl rfl rfl rfl rfl ES (.inr ⟨_,ES⟩) kR BO MV rfl rT rfl (Src.row GX O (fun x _=>TQ x)) oM ?_);intro _ ah;refine aA yQ ?_;refine J.nil (aP (aU (aO (aA (yY rfl rfl rfl (zV oM)) ?_))));refine aA yP ?_;refine J.nil (dB ?_);refine bV ?_;refine Cj.sr (aA AV ?_);refine J.nss (bG rfl (fun a9=>?_) (fun a9=>aC (aY (bH (by first|rfl|decide)) a9)));refine bC (aU (dY (aS (Cj.sr (aA (EL (off':=1) rfl rfl rfl WZ EZ dE dE dE) ?_)))));refine aA (yV KX (yR.at 0 rfl)) ?_;refine aA yQ ?_;refine J.GI (aA yP ?_);refine aA yP ?_;refine aG rfl (BI (by':=7) [_] rfl rfl rfl rfl rfl ES (.inr ⟨_,ES⟩) kR BO MV rfl ah rfl (Src.row GX Q (fun x _=>TQ x)) oM ?_);intro g9 ai;refine aA yQ ?_;refine J.nil (aP (aU (aO (aA (yY rfl rfl rfl (zV oM)) ?_))));refine aA yP ?_;refine J.nil (dB ?_);refine bV ?_;refine Cj.sr (aA AV ?_);refine J.nss (bG rfl (fun a1=>aC (aY (bH (by first|rfl|decide)) a1)) (fun a1=>?_));refine eX (bK (bK (dD (aU (Cj.sr (aA yP ?_))))));refine aA yQ ?_;refine J.ns (aV (bP (aI bZ) ?_));have A:([]:List Value)++l.flatMap FI++m.flatMap FI=(l++m).flatMap FI:=sI;refine Ej.perm (H':=gH 3 ((l++m).flatMap FI) g9++[]) (.of_eq (by rw[←A,aJ];rfl)) ?_;refine Ej.keepR GX dE (by rw[←A];exact ai) (by rw[aN];omega) (fun I8 ac a2=>?_);refine zM ?_;exact⟨_,rfl,⟨a2,a4J _ _⟩,rfl⟩
 skip
 refine aA yP ?_;refine dS 23 rfl (show _=i64 ((l.length+m.length:Nat):Int) from(zD i64 oM)) ?_;refine aG rfl (EX rfl rfl rfl rfl rfl (b9R (l.length+m.length) oM oM _) ?_ (fun _ _ _ _ ⟨_,h,_⟩=>by cases h) (fun _ _ ⟨_,h,_⟩=>by cases h));intro _ _ _ N ad ae;have O:=O.mono N;have Q:=Q.mono N;obtain⟨g,h,aj,rfl⟩:=ae;cases h;have hg:=aj.base ad;refine J.perm (H':=[_]++gH _ _ g) List.perm_append_comm ?_;refine aA yQ ?_;refine J.zX (aO (aA yP ?_));refine aA (zZ WZ) ?_;refine aA yP ?_;refine J.ns (aS (fK 3 ?_));refine bV ?_;refine Cj.sr (aA AV ?_);refine J.nss (bG rfl (fun a3=>?_) (fun a3=>aC (aY (bH (by first|rfl|decide)) a3)));refine bC (aU (dY (aS (Cj.sr (aA (EL (off':=0) rfl rfl rfl WZ EZ dE dE dE) ?_)))));refine aA (yV KX (yR.at 0 rfl)) ?_;refine aA yQ ?_;refine J.GI (aA yP ?_);refine aA yP ?_;refine aG rfl (BI (by':=7) [_] rfl rfl rfl rfl rfl ES (.inr ⟨_,ES⟩) kR BO MV rfl hg rfl (Src.row GX O (fun x _=>TQ x)) oM ?_);intro _ af;refine aA yQ ?_;refine J.nil (aP (aU (aO (aA (yY rfl rfl rfl (zV oM)) ?_))));refine aA yP ?_;refine J.nil (dB ?_);refine bV ?_;refine Cj.sr (aA AV ?_);refine J.nss (bG rfl (fun a4=>?_) (fun a4=>aC (aY (bH (by first|rfl|decide)) a4)));refine bC (aU (dY (aS (Cj.sr (aA (EL (off':=1) rfl rfl rfl WZ EZ dE dE dE) ?_)))));refine aA (yV KX (yR.at 0 rfl)) ?_;refine aA yQ ?_;refine J.GI (aA yP ?_);refine aA yP ?_;refine aG rfl (BI (by':=7) [_] rfl rfl rfl rfl rfl ES (.inr ⟨_,ES⟩) kR BO MV rfl af rfl (Src.row GX Q (fun x _=>TQ x)) oM ?_);intro ak ag;refine aA yQ ?_;refine J.nil (aP (aU (aO (aA (yY rfl rfl rfl (zV oM)) ?_))));refine aA yP ?_;refine J.nil (dB ?_);refine bV ?_;refine Cj.sr (aA AV ?_);refine J.nss (bG rfl (fun a5=>aC (aY (bH (by first|rfl|decide)) a5)) (fun a5=>?_));refine eX (bK (bK (dD (aU (Cj.sr (aA yP ?_))))));refine aA yQ ?_;refine J.ns (aV (bP (aI bZ) ?_));have A:([]:List Value)++l.flatMap FI++m.flatMap FI=(l++m).flatMap FI:=sI;refine Ej.perm (H':=gH 3 ((l++m).flatMap FI) ak++[]) (.of_eq (by rw[←A,aJ];rfl)) ?_;refine Ej.keepR GX dE (by rw[←A];exact ag) (by rw[aN];omega) (fun I8 ac a2=>?_);refine zM ?_;exact⟨_,rfl,⟨a2,a4J _ _⟩,rfl⟩
theorem c4N x I:Pure aB 20 [.agg (CY x).toArray] I (kvI (Bk.BZ x.f)):=by
 refine bW ?_;refine yS.ob func20 ?_;intro w0 _;refine Cj.sr (aG rfl (BG ?_));intro _ _;refine aG rfl (CU zeroValue62 ?_);intro _ _;refine J.zX (aO (aA (qq2 (off':=2) DT zS) ?_));refine aA (yV BR (yR.at 1 rfl)) ?_;refine aA (KC rfl rfl rfl) ?_;refine J.cd (fun h=>?_) (fun h=>?_)
 ·have A:=bne_iff_ne.1 h;refine Cj.sr (aA (qq2 (off':=2) DT zS) ?_);refine aA (yV BR (yR.at 1 rfl)) ?_;refine aA (BD (pl:= #[(0,1),(1,2)]) rfl rfl zeroValue62 rfl underlying62 (fun w=>by simp[AL,zS]) (dZ rfl rfl rfl (aF aX) fM)) ?_;refine aG rfl (AB 0 sizeOf62 (aF (aF (aF aX))) bD ?_);refine J.ns (aV (Ej.KU (dA (aI (aI eY)) rfl rfl rfl (yR.at 0 rfl) isAgg62 sizeOf62 rfl ?_)));rw[show Bk.BZ x.f=(x.f.k,((0:Int),(0:Int))) from zG (bne_iff_ne.1 h)];exact rT
 have A:=DI h;refine bC (aU (Cj.sr (aA (qq2 (off':=0) DT AL) ?_)));refine aA (zW DJ AL (yR.at 1 rfl)) ?_;refine aA (BD (pl:= #[(0,1),(1,2)]) rfl rfl zeroValue62 rfl underlying62 (fun w=>by simp[AL,zS]) (dZ rfl rfl rfl (dH (aF (aF aX))) fM)) ?_;refine aG rfl (AB 0 sizeOf62 (aF (aF (aF aX))) bD ?_);refine J.ns (aV (dA (aI (aI eY)) rfl rfl rfl (yR.at 0 rfl) isAgg62 sizeOf62 rfl ?_));rw[show Bk.BZ x.f=([],x.f.t) from zF (fun g=>g (DI h))];exact rT
theorem b2I x y I:yS aB 22 [AQ x,AQ y] I [] (fun e _ H'=>e= .returned (i64 (ZI x y))∧H'=[]):=yS.c5y (a4o x.1 x.2 y.1 y.2 I)
theorem a4M n:IntKind.i64.wrap n=Bk.W n:=by rw[IntKind.wrap_i64];unfold Bk.W;omega
theorem c2Y x y (hl:x.f.p.length+y.f.p.length≤1000000000) I (A:ZF I x)(G:ZF I y):yS aB 21 [.agg (CY x).toArray,.agg (CY y).toArray] I []
 (fun e I' H'=>∃z:Fv,e= .returned (.agg (CY z).toArray)∧z.f=fO x.f y.f∧ZF I' z∧H'=[]):=by
 refine yS.ob func21 ?_;intro w0 _;refine Cj.sr (aG rfl (BG ?_));intro _ _;refine aG rfl (BG ?_);intro _ _;refine aG rfl (CU JZ ?_);intro _ _;refine J.zX (aO (aA (qq2 (off':=0) DT AL) ?_));refine aA (zW DJ AL (yR.at 1 rfl)) ?_;refine aA (qq2 (off':=0) DT AL) ?_;refine aA (zW DJ AL (yR.at 2 rfl)) ?_;refine aG rfl (yT (H1:=[]) rfl rfl rfl rfl rfl (b2I y.f.t x.f.t _) ?_ (fun _ _ _ _ ⟨h,_⟩=>by cases h) (fun _ _ ⟨h,_⟩=>by cases h));intro _ _ _ Q a2;have A:=A.mono Q;have G:=G.mono Q;obtain⟨h,rfl⟩:=a2;cases h;refine aA AV ?_;refine dS 10 rfl (show _= .bool (fP y.f.t x.f.t) from(zD Value.bool (RD y.f.t x.f.t))) ?_;refine J.cd (fun Z=>?_) (fun Z=>?_)
 ·refine aO (aA (qq2 (off':=0) DT AL) ?_);refine aA (zW DJ AL (yR.at 1 rfl)) ?_;refine aA (qq2 (off':=0) DT AL) ?_;refine aG rfl (AB 2 AL (aF (aF aX)) (bM (bM bD)) ?_);refine J.yX (aA (qq2 (off':=3) DT EZ) ?_);refine aA (yV KX (yR.at 2 rfl)) ?_;refine aA (qq2 (off':=3) DT EZ) ?_;refine aA (yV KX (yR.at 1 rfl)) ?_;refine aG rfl (BQ WZ EZ c4T (fC rfl (fC rfl eF)) ?_);intro _ _;refine J.pull eG ?_;refine aG rfl (yT (H1:=[_]) rfl rfl rfl rfl rfl (a6s x.f.p y.f.p _ _ _ hl _ A.1 G.1) ?_ (fun _ _ _ _ ⟨_,h,_⟩=>by cases h) (fun _ _ ⟨_,h,_⟩=>by cases h));intro _ _ _ N a0;have A:=A.mono N;have G:=G.mono N;obtain⟨w,h,hw,rfl⟩:=a0;cases h;obtain⟨pw,cw,rfl⟩:=hw.len;refine aA (qq2 (off':=3) DT EZ) ?_;refine aG rfl (AB 2 EZ (dH (dH (dH (aF aX)))) (bM (bM bD)) ?_);refine J.yX (aA (zW LX CV (yR.at 2 rfl)) ?_);refine aG rfl (AB 0 CV (aF (aF (aF (aF aX)))) bD ?_);refine J.ns (aV (dA (aI (aI (aI eY))) rfl rfl rfl (yR.at 0 rfl) LX CV rfl ?_));exact⟨⟨⟨y.f.t,x.f.k,x.f.p++y.f.p⟩,pw,cw⟩,rfl,by unfold fO;rw[show(if fP y.f.t x.f.t=true then y.f.t else x.f.t)=y.f.t from zG Z],hw,rfl⟩
 refine bC (aU (Cj.sr (aA (qq2 (off':=3) DT EZ) ?_)));refine aA (yV KX (yR.at 2 rfl)) ?_;refine aA (qq2 (off':=3) DT EZ) ?_;refine aA (yV KX (yR.at 1 rfl)) ?_;refine aG rfl (BQ WZ EZ c4T (fC rfl (fC rfl eF)) ?_);intro _ _;refine J.pull eG ?_;refine aG rfl (yT (H1:=[_]) rfl rfl rfl rfl rfl (a6s x.f.p y.f.p _ _ _ hl _ A.1 G.1) ?_ (fun _ _ _ _ ⟨_,h,_⟩=>by cases h) (fun _ _ ⟨_,h,_⟩=>by cases h));intro _ _ _ O a1;have A:=A.mono O;have G:=G.mono O;obtain⟨w,h,hw,rfl⟩:=a1;cases h;obtain⟨pw,cw,rfl⟩:=hw.len;refine aA (qq2 (off':=3) DT EZ) ?_;refine aG rfl (AB 2 EZ (dH (dH (dH (aF aX)))) (bM (bM bD)) ?_);refine J.yX (aA (zW LX CV (yR.at 2 rfl)) ?_);refine aG rfl (AB 0 CV (aF (aF (aF (aF aX)))) bD ?_);refine J.ns (aV (dA (aI (aI (aI eY))) rfl rfl rfl (yR.at 0 rfl) LX CV rfl ?_));exact⟨⟨⟨x.f.t,x.f.k,x.f.p++y.f.p⟩,pw,cw⟩,rfl,by unfold fO;rw[show(if fP y.f.t x.f.t=true then y.f.t else x.f.t)=x.f.t from zF (by rw[Z];exact Bool.false_ne_true)],hw,rfl⟩
theorem c2f x I:Pure aB 34 [.agg (AX x).toArray] I (str x.1):=by
 refine bW ?_;refine yS.ob func34 ?_;intro w0 _;refine Cj.sr (aG rfl (BG ?_));intro _ _;refine aA yQ ?_;refine J.yX (aA (qq2 (off':=0) LY zS) ?_);refine aA (yV BR (yR.at 0 rfl)) ?_;refine aA yQ ?_;refine J.ns (aV (Ej.bare ?_));refine zM ?_;exact rT
theorem b9v x y I:Pure aB 35 [.agg (AX x).toArray,.agg (AX y).toArray] I (.agg (AX (x.1,Bk.W (x.2+y.2))).toArray):=by
 refine bW ?_;refine yS.ob func35 ?_;intro w0 _;refine Cj.sr (aG rfl (BG ?_));intro _ _;refine aG rfl (BG ?_);intro _ _;refine aG rfl (CU GL ?_);intro _ _;refine J.yX (aA (qq2 (off':=0) LY zS) ?_);refine aA (yV BR (yR.at 2 rfl)) ?_;refine aA (qq2 (off':=1) LY BO) ?_;refine aA (yV FY (yR.at 2 rfl)) ?_;refine aA (qq2 (off':=1) LY BO) ?_;refine aA (yV FY (yR.at 1 rfl)) ?_;refine aA (a0n rfl rfl rfl) ?_;refine dS 11 rfl (show _=i64 (Bk.W (x.2+y.2)) from(zD (dL .i64) (a4M _))) ?_;refine aA (BD (pl:= #[(0,1),(1,1)]) rfl rfl GL rfl LY (fun w=>by simp[BO,zS]) (dZ rfl rfl rfl (aF aX) (dZ rfl rfl rfl (dH (aF aX)) fM))) ?_;refine aG rfl (AB 0 CQ (aF (aF aX)) bD ?_);refine J.ns (aV (dA (aI (aI (aI eY))) rfl rfl rfl (yR.at 0 rfl) NS CQ rfl ?_));exact rT
theorem b9f a n c (h:n≤c) I:Pure aB 60 [.slice a n c] I (.slice a n n):=by
 refine bW ?_;refine yS.ob func60 ?_;intro w0 _;refine Cj.sr (aA yQ ?_);refine J.yX (aA yP ?_);refine aA yP ?_;refine aA (zZ EI) ?_;refine aA yP ?_;refine aA (zZ EI) ?_;refine aA (a8Z (k:=n) (m:=n) rfl rfl rfl rfl EI CV (aT _) h) ?_;refine aA yQ ?_;refine J.ns (aV (zM ?_));exact rT
theorem IZ a n c h (A:n≤c) I:Pure aB 40 [.slice a n c,i64 h] I (.slice a (min n h.toNat) (min n h.toNat)):=by
 refine bW ?_;refine yS.ob func40 ?_;intro w0 _;refine Cj.sr (aA yQ ?_);refine J.yX (aA yP ?_);refine aA yP ?_;refine aA (zZ EI) ?_;refine aA yP ?_;refine aA (KE rfl rfl rfl) ?_;refine aA (OZ rfl rfl rfl) ?_;refine dS 10 rfl (show _=i64 ((min n h.toNat:Nat):Int) from(zD i64 (a7j _ _))) ?_;refine aA (JI (k:=(min n h.toNat)) rfl rfl rfl EI CV rfl (KT (bY _ _) A)) ?_;refine aG rfl (yU rfl rfl rfl rfl rfl (b9f a (min n h.toNat) c (KT (bY _ _) A) _) ?_);refine aA yQ ?_;refine J.ns (aV (zM ?_));exact rT
theorem b7A a n c h (A:n≤c) I:Pure aB 32 [.slice a n c,i64 h] I (.slice a (min n h.toNat) (min n h.toNat)):=by
 refine bW ?_;refine yS.ob func32 ?_;intro w0 _;refine Cj.sr (aA yQ ?_);refine J.yX (aA yP ?_);refine aA yP ?_;refine aA (zZ CP) ?_;refine aA yP ?_;refine aA (KE rfl rfl rfl) ?_;refine aA (OZ rfl rfl rfl) ?_;refine dS 10 rfl (show _=i64 ((min n h.toNat:Nat):Int) from(zD i64 (a7j _ _))) ?_;refine aA (JI (k:=(min n h.toNat)) rfl rfl rfl CP CQ rfl (KT (bY _ _) A)) ?_;refine aG rfl (yU rfl rfl rfl rfl rfl (a7U a (min n h.toNat) c (KT (bY _ _) A) _) ?_);refine aA yQ ?_;refine J.ns (aV (zM ?_));exact rT
def nxM {α:Type} (l:ML α) (e:α×Value×Nat→Value):Heap→ML α→List Value→ML α→Prop:=fun _ vis args vis'=>∃p r,(vis++p::r).Perm l∧args=[e p]∧vis'=vis++[p]
theorem b3M{α:Type}{l:ML α}{e:α×Value×Nat→Value}:∀I s args A,nxM l e I s args A→args.length=1:=fun _ _ _ _ ⟨_,_,_,h,_⟩=>by rw[h];rfl
theorem a1c{α β:Type}(vis:List α)(p:α) φ (f:β→List Value):((vis++[p]).map φ).flatMap f=(vis.map φ).flatMap f++f (φ p):=sI
theorem b0T{α:Type}{a b l:List α}{x:α}(h:(a++[x]++b).Perm l):(a++x::b).Perm l:=by rw[fB]at h;exact h
theorem b3n{α:Type}{a b l:List α}{x:α}(h:(a++x::b).Perm l):a.length<l.length:=by have:=h.length_eq;rw[aN,aH]at this;omega
structure TVF where
  vis:ML (Bk.Idn)
  rest:ML (Bk.Idn)
  J:Heap
  H:HL
theorem c1d kb Q l c (a0:MS l c)(φ:(dN)×Value×Nat→Fv)(hφ:∀p∈l,p.2.1= .agg (CY (φ p)).toArray) I (G:I kb=some (yZ 97 [.map (some Q)]))(A:I Q=some (zY kvI l c)):a1L aB 63 [] [ptr kb 0] I ([]:ML (dN)) (nxM l fun p=> .agg (CY (φ p)).toArray) (fun s=>s.Perm l):=by
 refine⟨bJ func63 dE rfl,fun ly Y Z _ a9 H aa=>?_⟩;refine yS.ob func63 ?_;intro w0 _;refine Cj.sr (aA (yV isAgg97 (cO G)) ?_);refine aG rfl (MW (kv:=kvI) (l:=l) rfl rfl rfl rfl b1q (cO A) ?_);intro b1 _;refine J.ns (aS (Cj.loop (ι:=TVF) (fun y=>(y.vis++y.rest).Perm l∧(y.J kb=some (yZ 97 [.map (some Q)])∧y.J Q=some (zY kvI l c))∧Y y.vis y.J y.H) (fun y=>y.rest.length) (fun y=>[(0,.func (.yield ly) #[] #[]),(6,ptr b1 0)]) (fun y=>y.J) (fun y=>(b1,XB Q c y.vis c)::y.H) ⟨[],l,_,H⟩ ⟨.refl _,⟨G,A⟩,aa⟩ rT rfl rfl ?_));rintro⟨vis,rest,_,HY⟩ ⟨hp,⟨G,A⟩,hY⟩;dsimp only at hp G A hY ⊢;refine Cj.sr (aG rfl (OD (kv:=kvI) (l:=l) 0 rfl rfl rfl rfl rfl (cO A) a0.2.2 (aT _) a0.2.1 hp ?_ ?_))
 ·rintro x N _ ab a1 ⟨-,hset⟩;simp only[eH,eP]at hset;subst hset;have a4:x∈l:=a1.mem_iff.1 (dU _ (dP _ (.head _)));refine aA AZ ?_;refine J.nss (bG rfl (fun a5=>?_) (fun a5=>aC (aY (bH rfl) a5)));refine bC (aU (aS (Cj.sr (aA (RJ (kv:=kvI) (l:=l) rfl rfl (yR.at 0 rfl) (cO A) a4 a0.2.1) ?_))));refine aA AZ ?_;refine dS 10 rfl (show _= .agg (CY (φ x)).toArray from hφ x a4) ?_;refine aG rfl (CU JZ ?_);intro _ _;refine aG rfl (AB 0 CV (aF (aF (aF (aF aX)))) bD ?_);refine J.yX (aA yP ?_);refine aA (zW LX CV (yR.at 0 rfl)) ?_;refine J.yield [_,_] rfl rfl rfl rfl rfl rfl (a9 vis [_] (vis++[x]) _ HY ⟨x,N,b0T a1,rfl,rfl⟩ hY) ?_ (fun _ _ _ h=>by rcases h with⟨h,_⟩|⟨h,_⟩<;>cases h) (fun _ _ h=>by rcases h with⟨h,_⟩|⟨h,_⟩<;>cases h);intro v3 I3 O a2 ac;have G:=a2 _ _ G;have A:=a2 _ _ A;obtain⟨_,h3,a6⟩:∃t:Bool,v3= .bool t∧((t=true∧Y (vis++[x]) I3 O)∨(t=false∧Z I3 O)):=by
   rcases ac with⟨h,h2⟩|⟨h,h2⟩
   ·cases h;exact⟨true,rfl,.inl ⟨rfl,h2⟩⟩
   cases h;exact⟨false,rfl,.inr ⟨rfl,h2⟩⟩
  subst h3;refine aA (ER rfl rfl) ?_;refine J.cd (fun a3=>?_) (fun a3=>?_)
  ·have ad:Z I3 O:=by
    rcases a6 with⟨rfl,_⟩|⟨_,h⟩
    ·exact aC a3
    exact h
   refine aV (eU (Ej.NC (eU (bP (H':=O) (aZ _ (aZ _ (bT _))) ?_))));exact Ej.b0V rfl rfl ⟨rfl,.inr ad⟩
  have ae:Y (vis++[x]) I3 O:=by
   rcases a6 with⟨_,h⟩|⟨rfl,_⟩
   ·exact h
   exact aC a3
  refine bC (aP (bP (aI (dQ bZ)) ?_));refine Ej.round ⟨vis++[x],N,_,O⟩ ⟨a1,⟨G,A⟩,ae⟩ (by have h:=ab.length_eq;simp only[aH]at h;dsimp only;omega) rT rfl rfl
 intro a8;have af:vis.Perm l:=by rw[a8,aJ]at hp;exact hp
 refine aA AZ ?_;refine J.nss (bG rfl (fun a7=>aC (aY (bH rfl) a7)) (fun a7=>?_));refine eX (bK (Ej.IB (dD (bP (H':=HY) (aZ _ (bT _)) ?_))));refine Ej.RY rfl rfl ⟨rfl,.inl ⟨vis,af,hY⟩⟩
theorem b4Q m I:yS aB 42 [.map m] I [] (fun e _ H'=>∃b,e= .returned (.func (.func 63) #[] #[ptr b 0])∧H'=[(b,yZ 97 [.map m])]):=by
 refine yS.ob func42 ?_;intro w0 _;refine Cj.sr (aG rfl (BG ?_));intro h _;refine aA yQ ?_;refine J.yX (aA (DY rfl rfl rfl) ?_);refine aA yQ ?_;refine J.ns (aV (zM ?_));exact⟨h,rfl,rfl⟩
theorem a9C A φ f G N I (hl:A.length≤1000000000000)(O:a1L aB f G N I ([]:ML (dN)) (nxM A fun p=> .agg (CY (φ p)).toArray) (fun s=>s.Perm A)):yS aB 98 [.slice none 0 0,.func (.func f) G.toArray N.toArray] I []
 (fun e _ H'=>∃(zs:List (Fv)) (g:Gs),zs.Perm (A.map φ)∧BM 0 4 zs.length (zs.flatMap CY) g∧e= .returned (gV zs.length g)∧H'=gH 37 (zs.flatMap CY) g):=by
 refine yS.XY func98 rfl dE (dR rfl) ?_;intro w0 _;refine Cj.sr (aG rfl (BG ?_));intro b1 _;refine aA yQ ?_;refine J.zX (aO (aA yP ?_));refine J.ns (aS (Cj.a2B (ps:=[7]) (H1:=[_]) (R:=[]) ([]:ML (dN)) (nxM A fun p=> .agg (CY (φ p)).toArray) (fun s=>s.Perm A) (fun vis _ H'=>∃g,BM 0 4 vis.length ((vis.map φ).flatMap CY) g∧H'=(b1,yZ 25 [gV vis.length g])::gH 37 ((vis.map φ).flatMap CY) g) (fun _ _ _=>False) rfl (a1Y rfl) b3M rfl O (fun _ _ _ _ _ h=>h) ⟨none,⟨rfl,rfl⟩,rfl⟩ ?_ ?_ ?_))
 ·intro l r k args _ _ _ _ hk a0 Q;obtain⟨_,_,a1,rfl,rfl⟩:=hk;obtain⟨g,hg,rfl⟩:=Q;have a3:=b3n a1;refine aO (aG rfl (CU JZ ?_));intro _ _;refine aG rfl (AB 0 CV (aF (aF (aF (aF aX)))) bD ?_);refine J.nil (fJ (fQ eG) ?_);refine Ej.asg ?_;refine aS (aO (aA (yV isAgg25 (yR.at 2 rfl)) ?_));refine aA (zW LX CV (yR.at 1 rfl)) ?_;refine aG rfl (BQ EI CV JZ (IC.agg rfl eF) ?_);intro _ _;refine aG rfl (JX 0 (cZ _) (by':=55) [_,_,_,_] rfl rfl rfl rfl rfl EI (.inr ⟨_,EI⟩) kR CV JZ rfl hg rfl (Src.slice (yR.at 0 rfl) rfl rfl rfl) oM ?_);intro _ a2;refine aG rfl (EN 3 rfl rfl rfl rfl (NH _ _) (UF _ _) RX rfl rfl (aF aX) (bM (bM (bM bD))) ?_);refine J.nil (aP (fJ (fQ eG) ?_));refine bP (dQ (aI (aI (dQ bZ)))) ?_;exact Ej.a2y ⟨_,by rw[a1c,aN];exact a2,by rw[a1c,aN];rfl⟩
 ·intro _ sE _ _ Z a0 Q;obtain⟨g,hg,rfl⟩:=Q;refine aP (aU (Cj.sr (aA (yV isAgg25 (yR.at 1 rfl)) ?_)));refine aA yQ ?_;refine J.ns (aV (Ej.a1R (.inl rfl) ?_));refine OU.mark 0 rfl bD ?_;refine OU.keep (aI (aI bZ)) ?_;exact OU.a5M rfl rfl ⟨sE.map φ,g,Z.map φ,by rw[aK];exact hg,by rw[aK],aJ _⟩
 exact fun _ _ _ _ _ hZ=>hZ.elim
theorem b2J A φ f G N I (hl:A.length≤1000000000000)(O:a1L aB f G N I ([]:ML (dN)) (nxM A fun p=> .agg (CY (φ p)).toArray) (fun s=>s.Perm A)):yS aB 61 [.func (.func f) G.toArray N.toArray] I []
 (fun e _ H'=>∃(zs:List (Fv)) (g:Gs),zs.Perm (A.map φ)∧BM 0 4 zs.length (zs.flatMap CY) g∧e= .returned (gV zs.length g)∧H'=gH 37 (zs.flatMap CY) g):=by
 refine yS.ob func61 ?_;intro w0 _;refine Cj.sr (aA yQ ?_);refine J.yX (aA yP ?_);refine aG rfl (yT (H1:=[]) rfl rfl rfl rfl rfl (a9C A φ f G N _ hl O) ?_ (fun _ _ _ _ ⟨_,_,_,_,h,_⟩=>by cases h) (fun _ _ ⟨_,_,_,_,h,_⟩=>by cases h));intro _ _ _ _ Q;obtain⟨zs,g,Z,hg,h,rfl⟩:=Q;cases h;refine aA yQ ?_;refine J.ns (aV (zM ?_));exact⟨zs,g,Z,hg,rfl,aJ _⟩
theorem b6i A φ f G N I (hl:A.length≤1000000000000)(a0:a1L aB f G N I ([]:ML (dN)) (nxM A fun p=> .agg (CY (φ p)).toArray) (fun s=>s.Perm A)):yS aB 41 [.func (.func f) G.toArray N.toArray,.func (.func 24) #[] #[]] I []
 (fun e _ H'=>∃(ls:List (Fv)) (g:Gs),ls.Perm (A.map φ)∧ls.Pairwise (fun p q=>Bk.LP q.f p.f=false)∧BM 0 4 ls.length (ls.flatMap CY) g∧e= .returned (gV ls.length g)∧H'=gH 37 (ls.flatMap CY) g):=by
 refine yS.ob func41 ?_;intro w0 _;refine Cj.sr (aA yQ ?_);refine J.yX (aA yP ?_);refine aG rfl (yT (H1:=[]) rfl rfl rfl rfl rfl (b2J A φ f G N _ hl a0) ?_ (fun _ _ _ _ ⟨_,_,_,_,h,_⟩=>by cases h) (fun _ _ ⟨_,_,_,_,h,_⟩=>by cases h));intro _ _ _ _ a1;obtain⟨zs,g,Q,hg,h,rfl⟩:=a1;cases h;refine J.perm (H':=gH _ _ g) (.of_eq (aJ _).symm) ?_;refine aA yQ ?_;refine J.yX (aA yP ?_);refine aA yP ?_;refine aG rfl (FB (H1:=gH 37 (zs.flatMap CY) g) [] rfl rfl rfl rfl rfl rfl (b7o zs g hg (by have:=Q.length_eq;rw[aK]at this;omega) _) ?_ (fun _ _ _ _ ⟨_,_,_,h,_⟩=>by cases h) (fun _ _ ⟨_,_,_,h,_⟩=>by cases h));rintro _ _ _ _ ⟨ls,Z,a2,h,rfl⟩;cases h;have O:zs.length=ls.length:=Z.length_eq.symm;refine J.yX (aA yP ?_);refine aA yQ ?_;refine J.ns (aV (zM ?_));rw[O];exact⟨ls,g,Z.trans Q,a2,TK (O▸hg) (by rw[BP CS,BP CS,O]),rfl,rfl⟩
structure TVL where
  vis:ML (List UInt8)
  rest:ML (List UInt8)
  J:Heap
  H:HL
theorem c0g kb Q l c (a0:MS l c)(φ:(List UInt8)×Value×Nat→Bk.Ln)(hφ:∀p∈l,p.2.1= .agg (AX (φ p)).toArray) I (G:I kb=some (yZ 111 [.map (some Q)]))(A:I Q=some (zY (fun a:List UInt8=>str a) l c)):a1L aB 79 [] [ptr kb 0] I ([]:ML (List UInt8)) (nxM l fun p=> .agg (AX (φ p)).toArray) (fun s=>s.Perm l):=by
 refine⟨bJ func79 dE rfl,fun ly Y Z _ a9 H aa=>?_⟩;refine yS.ob func79 ?_;intro w0 _;refine Cj.sr (aA (yV isAgg111 (cO G)) ?_);refine aG rfl (MW (kv:=(fun a:List UInt8=>str a)) (l:=l) rfl rfl rfl rfl a7g (cO A) ?_);intro b1 _;refine J.ns (aS (Cj.loop (ι:=TVL) (fun y=>(y.vis++y.rest).Perm l∧(y.J kb=some (yZ 111 [.map (some Q)])∧y.J Q=some (zY (fun a:List UInt8=>str a) l c))∧Y y.vis y.J y.H) (fun y=>y.rest.length) (fun y=>[(0,.func (.yield ly) #[] #[]),(6,ptr b1 0)]) (fun y=>y.J) (fun y=>(b1,XB Q c y.vis c)::y.H) ⟨[],l,_,H⟩ ⟨.refl _,⟨G,A⟩,aa⟩ rT rfl rfl ?_));rintro⟨vis,rest,_,HY⟩ ⟨hp,⟨G,A⟩,hY⟩;dsimp only at hp G A hY ⊢;refine Cj.sr (aG rfl (OD (kv:=(fun a:List UInt8=>str a)) (l:=l) 0 rfl rfl rfl rfl rfl (cO A) a0.2.2 (aT _) a0.2.1 hp ?_ ?_))
 ·rintro x N _ ab a1 ⟨-,hset⟩;simp only[eH,eP]at hset;subst hset;have a4:x∈l:=a1.mem_iff.1 (dU _ (dP _ (.head _)));refine aA AZ ?_;refine J.nss (bG rfl (fun a5=>?_) (fun a5=>aC (aY (bH rfl) a5)));refine bC (aU (aS (Cj.sr (aA (RJ (kv:=(fun a:List UInt8=>str a)) (l:=l) rfl rfl (yR.at 0 rfl) (cO A) a4 a0.2.1) ?_))));refine aA AZ ?_;refine dS 10 rfl (show _= .agg (AX (φ x)).toArray from hφ x a4) ?_;refine aG rfl (CU GL ?_);intro _ _;refine aG rfl (AB 0 CQ (aF (aF aX)) bD ?_);refine J.yX (aA yP ?_);refine aA (zW NS CQ (yR.at 0 rfl)) ?_;refine J.yield [_,_] rfl rfl rfl rfl rfl rfl (a9 vis [_] (vis++[x]) _ HY ⟨x,N,b0T a1,rfl,rfl⟩ hY) ?_ (fun _ _ _ h=>by rcases h with⟨h,_⟩|⟨h,_⟩<;>cases h) (fun _ _ h=>by rcases h with⟨h,_⟩|⟨h,_⟩<;>cases h);intro v3 I3 O a2 ac;have G:=a2 _ _ G;have A:=a2 _ _ A;obtain⟨_,h3,a6⟩:∃t:Bool,v3= .bool t∧((t=true∧Y (vis++[x]) I3 O)∨(t=false∧Z I3 O)):=by
   rcases ac with⟨h,h2⟩|⟨h,h2⟩
   ·cases h;exact⟨true,rfl,.inl ⟨rfl,h2⟩⟩
   cases h;exact⟨false,rfl,.inr ⟨rfl,h2⟩⟩
  subst h3;refine aA (ER rfl rfl) ?_;refine J.cd (fun a3=>?_) (fun a3=>?_)
  ·have ad:Z I3 O:=by
    rcases a6 with⟨rfl,_⟩|⟨_,h⟩
    ·exact aC a3
    exact h
   refine aV (eU (Ej.NC (eU (bP (H':=O) (aZ _ (aZ _ (bT _))) ?_))));exact Ej.b0V rfl rfl ⟨rfl,.inr ad⟩
  have ae:Y (vis++[x]) I3 O:=by
   rcases a6 with⟨_,h⟩|⟨rfl,_⟩
   ·exact h
   exact aC a3
  refine bC (aP (bP (aI (dQ bZ)) ?_));refine Ej.round ⟨vis++[x],N,_,O⟩ ⟨a1,⟨G,A⟩,ae⟩ (by have h:=ab.length_eq;simp only[aH]at h;dsimp only;omega) rT rfl rfl
 intro a8;have af:vis.Perm l:=by rw[a8,aJ]at hp;exact hp
 refine aA AZ ?_;refine J.nss (bG rfl (fun a7=>aC (aY (bH rfl) a7)) (fun a7=>?_));refine eX (bK (Ej.IB (dD (bP (H':=HY) (aZ _ (bT _)) ?_))));refine Ej.RY rfl rfl ⟨rfl,.inl ⟨vis,af,hY⟩⟩
theorem b5G m I:yS aB 53 [.map m] I [] (fun e _ H'=>∃b,e= .returned (.func (.func 79) #[] #[ptr b 0])∧H'=[(b,yZ 111 [.map m])]):=by
 refine yS.ob func53 ?_;intro w0 _;refine Cj.sr (aG rfl (BG ?_));intro h _;refine aA yQ ?_;refine J.yX (aA (DY rfl rfl rfl) ?_);refine aA yQ ?_;refine J.ns (aV (zM ?_));exact⟨h,rfl,rfl⟩
theorem a9y A φ f G N I (hl:A.length≤1000000000000)(O:a1L aB f G N I ([]:ML (List UInt8)) (nxM A fun p=> .agg (AX (φ p)).toArray) (fun s=>s.Perm A)):yS aB 105 [.slice none 0 0,.func (.func f) G.toArray N.toArray] I []
 (fun e _ H'=>∃(zs:List (Bk.Ln)) (g:Gs),zs.Perm (A.map φ)∧BM 0 2 zs.length (zs.flatMap AX) g∧e= .returned (gV zs.length g)∧H'=gH 41 (zs.flatMap AX) g):=by
 refine yS.XY func105 rfl dE (dR rfl) ?_;intro w0 _;refine Cj.sr (aG rfl (BG ?_));intro b1 _;refine aA yQ ?_;refine J.zX (aO (aA yP ?_));refine J.ns (aS (Cj.a2B (ps:=[7]) (H1:=[_]) (R:=[]) ([]:ML (List UInt8)) (nxM A fun p=> .agg (AX (φ p)).toArray) (fun s=>s.Perm A) (fun vis _ H'=>∃g,BM 0 2 vis.length ((vis.map φ).flatMap AX) g∧H'=(b1,yZ 39 [gV vis.length g])::gH 41 ((vis.map φ).flatMap AX) g) (fun _ _ _=>False) rfl (a1Y rfl) b3M rfl O (fun _ _ _ _ _ h=>h) ⟨none,⟨rfl,rfl⟩,rfl⟩ ?_ ?_ ?_))
 ·intro l r k args _ _ _ _ hk a0 Q;obtain⟨_,_,a1,rfl,rfl⟩:=hk;obtain⟨g,hg,rfl⟩:=Q;have a3:=b3n a1;refine aO (aG rfl (CU GL ?_));intro _ _;refine aG rfl (AB 0 CQ (aF (aF aX)) bD ?_);refine J.nil (fJ (fQ eG) ?_);refine Ej.asg ?_;refine aS (aO (aA (yV isAgg39 (yR.at 2 rfl)) ?_));refine aA (zW NS CQ (yR.at 1 rfl)) ?_;refine aG rfl (BQ CP CQ GL (IC.agg rfl eF) ?_);intro _ _;refine aG rfl (JX 0 (cZ _) (by':=23) [_,_,_,_] rfl rfl rfl rfl rfl CP (.inr ⟨_,CP⟩) kR CQ GL rfl hg rfl (Src.slice (yR.at 0 rfl) rfl rfl rfl) oM ?_);intro _ a2;refine aG rfl (EN 3 rfl rfl rfl rfl (NH _ _) (UF _ _) a0H rfl rfl (aF aX) (bM (bM (bM bD))) ?_);refine J.nil (aP (fJ (fQ eG) ?_));refine bP (dQ (aI (aI (dQ bZ)))) ?_;exact Ej.a2y ⟨_,by rw[a1c,aN];exact a2,by rw[a1c,aN];rfl⟩
 ·intro _ sE _ _ Z a0 Q;obtain⟨g,hg,rfl⟩:=Q;refine aP (aU (Cj.sr (aA (yV isAgg39 (yR.at 1 rfl)) ?_)));refine aA yQ ?_;refine J.ns (aV (Ej.a1R (.inl rfl) ?_));refine OU.mark 0 rfl bD ?_;refine OU.keep (aI (aI bZ)) ?_;exact OU.a5M rfl rfl ⟨sE.map φ,g,Z.map φ,by rw[aK];exact hg,by rw[aK],aJ _⟩
 exact fun _ _ _ _ _ hZ=>hZ.elim
theorem b2u A φ f G N I (hl:A.length≤1000000000000)(O:a1L aB f G N I ([]:ML (List UInt8)) (nxM A fun p=> .agg (AX (φ p)).toArray) (fun s=>s.Perm A)):yS aB 77 [.func (.func f) G.toArray N.toArray] I []
 (fun e _ H'=>∃(zs:List (Bk.Ln)) (g:Gs),zs.Perm (A.map φ)∧BM 0 2 zs.length (zs.flatMap AX) g∧e= .returned (gV zs.length g)∧H'=gH 41 (zs.flatMap AX) g):=by
 refine yS.ob func77 ?_;intro w0 _;refine Cj.sr (aA yQ ?_);refine J.yX (aA yP ?_);refine aG rfl (yT (H1:=[]) rfl rfl rfl rfl rfl (a9y A φ f G N _ hl O) ?_ (fun _ _ _ _ ⟨_,_,_,_,h,_⟩=>by cases h) (fun _ _ ⟨_,_,_,_,h,_⟩=>by cases h));intro _ _ _ _ Q;obtain⟨zs,g,Z,hg,h,rfl⟩:=Q;cases h;refine aA yQ ?_;refine J.ns (aV (zM ?_));exact⟨zs,g,Z,hg,rfl,aJ _⟩
theorem b5e A φ f G N I (hl:A.length≤1000000000000)(a0:a1L aB f G N I ([]:ML (List UInt8)) (nxM A fun p=> .agg (AX (φ p)).toArray) (fun s=>s.Perm A)):yS aB 52 [.func (.func f) G.toArray N.toArray,.func (.func 36) #[] #[]] I []
 (fun e _ H'=>∃(ls:List (Bk.Ln)) (g:Gs),ls.Perm (A.map φ)∧ls.Pairwise (fun p q=>¬q.1<p.1)∧BM 0 2 ls.length (ls.flatMap AX) g∧e= .returned (gV ls.length g)∧H'=gH 41 (ls.flatMap AX) g):=by
 refine yS.ob func52 ?_;intro w0 _;refine Cj.sr (aA yQ ?_);refine J.yX (aA yP ?_);refine aG rfl (yT (H1:=[]) rfl rfl rfl rfl rfl (b2u A φ f G N _ hl a0) ?_ (fun _ _ _ _ ⟨_,_,_,_,h,_⟩=>by cases h) (fun _ _ ⟨_,_,_,_,h,_⟩=>by cases h));intro _ _ _ _ a1;obtain⟨zs,g,Q,hg,h,rfl⟩:=a1;cases h;refine J.perm (H':=gH _ _ g) (.of_eq (aJ _).symm) ?_;refine aA yQ ?_;refine J.yX (aA yP ?_);refine aA yP ?_;refine aG rfl (FB (H1:=gH 41 (zs.flatMap AX) g) [] rfl rfl rfl rfl rfl rfl (b7R zs g hg (by have:=Q.length_eq;rw[aK]at this;omega) _) ?_ (fun _ _ _ _ ⟨_,_,_,h,_⟩=>by cases h) (fun _ _ ⟨_,_,_,h,_⟩=>by cases h));rintro _ _ _ _ ⟨ls,Z,a2,h,rfl⟩;cases h;have O:zs.length=ls.length:=Z.length_eq.symm;refine J.yX (aA yP ?_);refine aA yQ ?_;refine J.ns (aV (zM ?_));rw[O];exact⟨ls,g,Z.trans Q,a2,TK (O▸hg) (by rw[BP BL,BP BL,O]),rfl,rfl⟩
end Go.Proofs.YtdjkhllhakhjbaaGreatDoor
namespace Go.Sx
open Go
theorem Ready.dom{I H w}(h:Ready I H w){b}(A:w.heap.size≤b):I b=none:=by
 cases hI:I b with
 |none=>rfl
 |some o=>
  have:=h.1 b o hI;rw[dM A]at this;cases this
section
variable {cx:Cx} {Q:Qt} {e:Env} {I:Heap} {H:HL}
end
section
variable {cx:Cx} {Q:Qt} {e:Env} {I:Heap} {H:HL}
end
def NJ {α:Type} (N:Nat→Prop) (T:TypeId) (f:α→List Value) (I:Heap) (l:List α) (v:Value):Prop:=
 ∃p c,v= .slice p l.length c∧l.length≤c∧(l≠[]→∃b sp,p=some ⟨b,0,none⟩∧N b∧I b=some (yZ T (l.flatMap f++sp)))
section
variable {α:Type} {N M:Nat→Prop} {T:TypeId} {f:α→List Value} {I I':Heap} {l:List α} {v:Value}
theorem NJ.mono(h:NJ N T f I l v)(A:Le I I'):NJ N T f I' l v:=
 let ⟨p,c,G,O,Q⟩:=h;⟨p,c,G,O,fun hn=>let ⟨b,sp,Z,h5,h6⟩:=Q hn;⟨b,sp,Z,h5,A _ _ h6⟩⟩
theorem NJ.imp(h:NJ N T f I l v)(A:∀b,N b→M b):NJ M T f I l v:=
 let ⟨p,c,G,O,Q⟩:=h;⟨p,c,G,O,fun hn=>let ⟨b,sp,Z,h5,h6⟩:=Q hn;⟨b,sp,Z,A b h5,h6⟩⟩
theorem NJ.rowT(h:NJ N T f I l v):RH T f I l v:=
 let ⟨p,c,A,G,O⟩:=h;⟨p,c,A,G,fun hn=>let ⟨b,sp,Q,_,Z⟩:=O hn;⟨b,sp,Q,Z⟩⟩
theorem NJ.row(h:NJ N T f I l v):zN f I l v:=h.rowT.row
theorem NJ.nil:NJ N T f I ([]:List α) (.slice none 0 0):=⟨none,0,rfl,aT _,fun h=>absurd rfl h⟩
end
section
variable {cx:Cx} {Q:Qt} {e:Env} {I:Heap} {R:HL} {T:TypeId} {α:Type} {l:List α} {f:α→List Value} {sz n base:Nat} {g:Gs}
theorem a2R{X:Heap→HL→Prop}(hf:∀x,(f x).length=sz)(G:0<sz)(hg:BM base sz n (l.flatMap f) g)(hn:n=l.length)(O:∀b o,base≤b→(∀h,Le I h→h b=some o→X h R)→X I ((b,o)::R))(k:∀h,Le I h→NJ (base≤·) T f h l (gV n g)→X h R):X I (gH T (l.flatMap f) g++R):=by
 subst hn;cases g with
 |none=>
  obtain⟨A,Q⟩:=hg;have:l=[]:=bQ.1 A;subst this;exact k I (Le.refl _) NJ.nil
 |some q=>
  obtain⟨b,c,sp⟩:=q;obtain⟨A,Q,Z⟩:=hg;have hc:l.length≤c:=by
   rw[BP hf]at Z;exact Nat.le_of_mul_le_mul_right (oM:l.length*sz≤c*sz) G
  exact O b _ A fun h N hb=>k h N ⟨_,c,rfl,hc,fun _=>⟨b,sp,rfl,A,hb⟩⟩
theorem Cj.a0l{c}(hf:∀x,(f x).length=sz)(h:0<sz)(hg:BM cx.w0.heap.size sz n (l.flatMap f) g)(hn:n=l.length)(k:∀A,Le I A→NJ (cx.w0.heap.size≤·) T f A l (gV n g)→Cj cx Q c e A R):Cj cx Q c e I (gH T (l.flatMap f) g++R):=
 a2R (X:=fun I H=>Cj cx Q c e I H) hf h hg hn (fun _ _ G k=>Cj.persist G k) k
theorem J.a0l{h r}(hf:∀x,(f x).length=sz)(A:0<sz)(hg:BM cx.w0.heap.size sz n (l.flatMap f) g)(hn:n=l.length)(k:∀G,Le I G→NJ (cx.w0.heap.size≤·) T f G l (gV n g)→J cx Q h r e G R):J cx Q h r e I (gH T (l.flatMap f) g++R):=
 a2R (X:=fun I H=>J cx Q h r e I H) hf A hg hn (fun _ _ N k=>J.persist N k) k
theorem Ej.a0l{x}(hf:∀x,(f x).length=sz)(h:0<sz)(hg:BM cx.w0.heap.size sz n (l.flatMap f) g)(hn:n=l.length)(k:∀A,Le I A→NJ (cx.w0.heap.size≤·) T f A l (gV n g)→Ej cx Q x e A R):Ej cx Q x e I (gH T (l.flatMap f) g++R):=
 a2R (X:=fun I H=>Ej cx Q x e I H) hf h hg hn (fun _ _ G k=>Ej.persist G k) k
end
section
variable {cx:Cx} {Q:Qt} {e:Env} {I I1:Heap} {H A:HL} {Z:CL} {z:Nat} {l:List Oper} {fuel:Nat} {listed:Array Bool}
end
section
variable {cx:Cx} {Q:Qt} {e:Env} {I I1:Heap} {R H1 A:HL} {Z:CL} {z:Nat} {ops:List Oper} {fuel:Nat} {listed:Array Bool} {T:TypeId} {α:Type} {l:List α} {f:α→List Value} {v:Value} {sz n:Nat} {g:Gs}
theorem JA.a4y(h:PZ T f l v H1)(G:∀p∈H1,cx.w0.heap.size≤p.1)(k:∀N,Le I N→RH T f N l v→JA cx Q ops I1 A Z z fuel listed e N R):JA cx Q ops I1 A Z z fuel listed e I (H1++R):=
 a8I (X:=fun I H=>JA cx Q ops I1 A Z z fuel listed e I H) h G (fun _ _ G k=>JA.persist G k) k
theorem JA.a0l(hf:∀x,(f x).length=sz)(h:0<sz)(hg:BM cx.w0.heap.size sz n (l.flatMap f) g)(hn:n=l.length)(k:∀G,Le I G→NJ (cx.w0.heap.size≤·) T f G l (gV n g)→JA cx Q ops I1 A Z z fuel listed e G R):JA cx Q ops I1 A Z z fuel listed e I (gH T (l.flatMap f) g++R):=
 a2R (X:=fun I H=>JA cx Q ops I1 A Z z fuel listed e I H) hf h hg hn (fun _ _ N k=>JA.persist N k) k
end
end Go.Sx
namespace Bk
open Ix
def c4K (x:Fd):Fd:=⟨x.t,x.k,x.p.take 4⟩
def c0D (r:List Fd):List Fd:=(r.take 12).map c4K
def a3Y (L:List (List Fd)):List (List Fd):=(L.take 6).map c0D
theorem b7y x r:MB (x::r)=x.p.length+MB r:=rfl
theorem a8h{n}:∀{r:List Fd},(∀x∈r,x.p.length≤n)→MB r≤r.length*n
 |[],_=>cZ _
 |x::r,h=>by
  have G:=a8h (r:=r) fun y A=>h y (.tail _ A);have N:=h x (.head _);rw[b7y,aH,Nat.add_mul];omega
theorem a6y:∀{M:List (List Fd)},(∀r∈M,r.length≤12∧∀x∈r,x.p.length≤4)→M.flatten.length≤M.length*12∧MB M.flatten≤M.length*48
 |[],_=>⟨aT _,aT _⟩
 |r::M,h=>by
  obtain⟨N,O⟩:=a6y (M:=M) fun y A=>h y (.tail _ A);obtain⟨_,G⟩:=h r (.head _);have Q:=a8h G;rw[List.flatten_cons,aN,QK,aH];omega
theorem b5A L:(a3Y L).length≤6∧(a3Y L).flatten.length≤72∧MB (a3Y L).flatten≤288:=by
 have A:(a3Y L).length≤6:=by unfold a3Y;rw[aK,dI];omega
 obtain⟨_,_⟩:=a6y (M:=a3Y L) fun r hr=>by
  unfold a3Y at hr;obtain⟨s,_,rfl⟩:=dJ.1 hr;unfold c0D;refine⟨by rw[aK,dI];omega,fun x h=>?_⟩;obtain⟨y,_,rfl⟩:=dJ.1 h;show(y.p.take 4).length≤4;rw[dI];omega
 omega
theorem a8A n:∀l:List Int,(VG n l).length≤l.length+1
 |[]=>aT _
 |x::r=>by
  have:=a8A n r;unfold VG
  split
  ·simp only[aH];omega
  split<;>simp only[aH]<;>omega
theorem a5d:∀(p l:List Int),(LQ l p).length≤l.length+p.length
 |[],_=>aT _
 |n::r,l=>by
  have h:=a5d r (VG n l);have A:=a8A n l;show(LQ (VG n l) r).length≤_;rw[aH];omega
theorem IL.at{xs r}(h:IL xs r){f}(hf:f∈r):∃g,grp (BZ f) xs=some g∧norm g=f:=by
 obtain⟨id,g,hg,hn⟩:=(h.mem f).1 hf;have A:=a1Q hg;rw[←ZG,hn]at A;exact⟨g,by rw[A];exact hg,hn⟩
theorem IL.nodup{xs r}(h:IL xs r):(r.map BZ).Nodup:=by
 rw[List.nodup_iff_pairwise_ne,List.pairwise_map];refine h.KQ.imp_of_mem fun {a b} N O A e=>?_;obtain⟨g,hg,rfl⟩:=h.at N;obtain⟨_,G,rfl⟩:=h.at O;rw[e,G]at hg;cases hg;rw[a1P]at A;cases A
theorem YI{α:Type}[DecidableEq α]:∀{l m:List α},l.Nodup→(∀x∈l,x∈m)→l.length≤m.length
 |[],_,_,_=>cZ _
 |a::l,m,hl,h=>by
  have A:=h a (.head _);have N:=YI (l:=l) (m:=m.erase a) (fF.1 hl).2 fun x G=>(List.mem_erase_of_ne (fun e:x=a=>(fF.1 hl).1 (by rw[←e];exact G))).2 (h x (.tail _ G));rw[List.length_erase_of_mem A]at N;have:=List.length_pos_of_mem A;rw[aH];omega
theorem IL.ids{xs r}(h:IL xs r) id:id∈r.map BZ↔id∈xs.map BZ:=by
 constructor
 ·intro A;obtain⟨f,hf,rfl⟩:=dJ.1 A;obtain⟨g,hg,_⟩:=h.at hf;exact b3x xs hg
 intro A;cases hg:grp id xs with
 |none=>
  exfalso
  revert A hg;refine KW (P:=fun xs=>id∈xs.map BZ→grp id xs=none→False) (fun h=>by simp at h) (fun ys x G=>?_) xs;intro A hg;rw[VB]at hg;unfold step1 at hg
  split at hg
  ·cases hg
  rename_i N
  rw[fE,fD]at A;rcases A with g|g
  ·exact G g hg
  rw[List.map_singleton,bI]at g;exact N g.symm
 |some g=>exact dJ.2 ⟨norm g,(h.mem _).2 ⟨id,g,hg,rfl⟩,(ZG g).trans (a1Q hg)⟩
theorem IL.len{xs r}(h:IL xs r):r.length≤xs.length:=by
 have:=YI (l:=r.map BZ) (m:=xs.map BZ) h.nodup fun id A=>(h.ids id).1 A
 rwa [aK,aK]at this
theorem IL.each{xs r}(h:IL xs r):∀f∈r,f.p.length≤MB xs:=fun f hf=>by
 obtain⟨g,hg,rfl⟩:=h.at hf;have G:=a4B _ hg;have A:=a5d g.p [];show(IY g.p).length≤_;have N:(IY g.p).length≤0+g.p.length:=A;omega
theorem IL.bound{xs r}(h:IL xs r)(G:xs.length≤72)(N:MB xs≤288):r.length≤72∧MB r≤20736∧∀f∈r,f.p.length≤288:=by
 have O:=h.len;have A:∀f∈r,f.p.length≤288:=fun f hf=>by have:=h.each f hf;omega
 have Q:=a8h A;exact⟨oM,oM,A⟩
