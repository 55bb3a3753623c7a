/-
  Own texts on the laws of the seat, joined: the logic, and contracts of functions. Conditions: none.
-/
import Derived.Test.YtojdemmgkdokmaaGreatDoorNmH
import Derived.Test.YtojdemmgkdokmaaGreatDoorPH6
import Derived.Shelf.Spec.SlicesGrow
import Derived.Ground.Names8Prog
import Derived.Maps.RangeRun
import Derived.Laws.StructEq
import Derived.Laws.AppendOwn
set_option linter.all false
set_option maxRecDepth 100000
set_option maxHeartbeats 40000000
open List renaming mem_cons -> aA,mem_singleton -> aB,mem_map -> aC,mem_map_of_mem -> aG,mem_append -> aI,one_le_count_iff -> aO,mem_filter -> aP,length_cons -> aV,length_eq_zero_iff -> aW,map_cons -> aX,pairwise_cons -> aY,map_append -> aZ,nodup_append -> bC,pairwise_map -> bD,append_assoc -> bF,getD_cons_zero -> bI,getD_cons_succ -> bJ,getElem?_eq_some_iff -> bK,getElem?_eq_getElem -> bP,perm_middle -> bU,length_drop -> bV,any_eq_true -> bW,perm_append_comm -> cO,mem_of_getElem? -> cZ,length_nil -> dB,nodup_iff_pairwise_ne -> dD,getElem?_append_right -> dG,getD_nil -> dK,foldl_append -> dL,size_toArray -> dM,mem_toArray -> dP,mem_flatMap -> dR,sublist_cons_self -> dV,pairwise_and_iff -> dY,take_append_drop -> eH,mem_append_left -> eX,length_append -> fA,append_of_mem -> fD,not_mem_nil -> fG,length_take -> fK,nodup_cons -> fM,append_nil -> fO,length_map -> fV,drop_drop -> gJ,map_map -> gZ
open Go.Instr renaming checkKey -> aF,sameBits -> bG,sliceBounds -> bT,sliceAt -> dJ,slice -> dX
open Go.Builtin renaming zeroCells -> aH,len_ -> gY
open Go.Sem renaming run_bind -> aJ,run_pure -> fC
open Nat renaming one_le_iff_ne_zero -> aK,lt_or_ge -> aU,le_of_mul_le_mul_right -> dI,le_refl -> dW,blt -> fF,lt_irrefl -> gU
open Bool renaming and_eq_true -> aN,or_eq_true -> dS,false_ne_true -> eY,eq_iff_iff -> fZ,true_and -> gQ
open Go.Result renaming andThen_ok -> aQ
open Array renaming getElem?_eq_none -> aS,getElem?_append_left -> dH,getElem?_modify -> eG,toArray_toList -> eU,mem_filter -> fH,contains -> gI
open Go.Op renaming equalIn -> aT
open UInt8 renaming ofNat -> bH
open Std renaming lt_of_le_of_ne -> bM,lt_irrefl -> gK
open Go.Sort renaming ahead -> bQ
open Go.Proofs.Tryz renaming prog -> bY,func105 -> gW,func157 -> gX
open Go.Oper renaming upon -> bZ,wp -> eF
open Option renaming map_some -> dA
open Go.Sx renaming SE -> dF,DN -> dU
open Go.Proofs.AnyF renaming slices_SortFunc_none -> dN
open Go.Lib renaming decodeL_N -> dQ
open Go.Sx.Le renaming refl -> dZ
open Go.Proofs.AnyQ renaming slices_SortFunc -> eP
open Go.Sx.AV renaming z -> fB
open Ne renaming symm -> fE
open Go.Program renaming fieldsOf -> fJ
open Go.Sx.Pure renaming of_same -> fP
open Go.Value renaming func -> fQ,oneCell' -> gB
open Go.Sx.IK renaming equal -> fU
open List.Perm renaming refl -> gG
open Go.Proofs.Lays8 renaming n4 -> iC
namespace Bk
open Ix
structure Fd where
  t:Rec
  k:List UInt8
  p:List Int
deriving DecidableEq,Inhabited
abbrev Idn:=List UInt8×Rec
def DF (f:Fd):Idn:=if f.k≠[]then(f.k,(0,0))else([],f.t)
def a2e (a b:Fd):Fd:=⟨if IW b.t a.t then b.t else a.t,a.k,a.p++b.p⟩
def step1 (id:Idn) (o:Option Fd) (x:Fd):Option Fd:=if DF x=id then some (match o with|none=>x|some y=>a2e y x)else o
def grp (id:Idn) (xs:List Fd):Option Fd:=xs.foldl (step1 id) none
theorem XD id xs x:grp id (xs++[x])=step1 id (grp id xs) x:=by
 unfold grp;rw[dL];rfl
theorem b3K{f g}(h:DF f=DF g):f.k=g.k:=by
 unfold DF at h
 by_cases h1:f.k=[]
 ·by_cases h2:g.k=[]
  ·rw[h1,h2]
  rw[zF (by simpa using h1),zG h2]at h;exact absurd (zD (·.1) h).symm h2
 by_cases h2:g.k=[]
 ·rw[zG h1,zF (by simpa using h2)]at h;exact absurd (zD (·.1) h) h1
 rw[zG h1,zG h2]at h;exact zD (·.1) h
theorem a7C{f g}(h:DF f=DF g)(A:f.k=[]):f.t=g.t:=by
 have h2:g.k=[]:=(b3K h)▸A;unfold DF at h;rw[zF (by simpa using A),zF (by simpa using h2)]at h;exact zD (·.2) h
theorem a8S{f g}(A:f.k=g.k)(G:f.k=[]→f.t=g.t):DF f=DF g:=by
 unfold DF;rw[←A]
 by_cases h:f.k=[]
 ·rw[zF (by simpa using h),zF (by simpa using h),G h]
 rw[zG h,zG h]
theorem a4e{a b}(h:DF a=DF b):DF (a2e a b)=DF a:=by
 refine a8S rfl fun A=>?_;have G:=a7C h A;unfold a2e;rw[←G,JI];rfl
theorem MV{α:Type}{P:List α→Prop}(h0:P [])(h1:∀xs x,P xs→P (xs++[x])) xs:P xs:=by
 have h:∀l:List α,P l.reverse:=fun l=>by
  induction l with
  |nil=>exact h0
  |cons x l A=>rw[List.reverse_cons];exact h1 _ x A
 have:=h xs.reverse
 rwa [List.reverse_reverse]at this
theorem a7S{id}:∀{xs:List Fd} {g:Fd},grp id xs=some g→DF g=id:=by
 intro xs;refine MV (P:=fun xs=>∀{g:Fd},grp id xs=some g→DF g=id) (fun {g} h=>by cases h) (fun xs x A=>?_) xs;intro g h;rw[XD]at h;unfold step1 at h
 split at h
 ·rename_i G
  cases hg:grp id xs with
  |none=>rw[hg]at h;cases h;exact G
  |some y=>
   rw[hg]at h;cases h;rw[a4e ((A hg).trans G.symm)];exact A hg
 exact A h
def VZ (n:Int):List Int→List Int
 |[]=>[n]
 |x::r=>if x<n then x::VZ n r else if x=n then x::r else n::x::r
def ND (l p:List Int):List Int:=p.foldl (fun l n=>VZ n l) l
def KU (p:List Int):List Int:=ND [] p
theorem b0F l a b:ND l (a++b)=ND (ND l a) b:=by unfold ND;rw[dL]
theorem b2h a b:KU (a++b)=ND (KU a) b:=b0F [] a b
theorem a6k n:∀(l:List Int) (x:Int),x∈VZ n l↔x=n∨x∈l
 |[],x=>by simp[VZ]
 |y::r,x=>by
  unfold VZ
  split
  ·rw[aA,a6k n r x,aA];exact⟨fun h=>h.elim (fun h=> .inr (.inl h)) fun h=>h.elim .inl fun h=> .inr (.inr h),fun h=>h.elim (fun h=> .inr (.inl h)) fun h=>h.elim .inl fun h=> .inr (.inr h)⟩
  split
  ·rename_i h;subst h
   exact⟨.inr,fun h=>h.elim (fun h=>h▸ .head _) id⟩
  rw[aA]
theorem b5c n:∀(l:List Int),l.Pairwise (· <·)→(VZ n l).Pairwise (· <·)
 |[],_=>by simp[VZ]
 |y::r,h=>by
  have A:=aY.1 h;unfold VZ
  split
  ·rename_i G
   refine aY.2 ⟨fun z hz=>?_,b5c n r A.2⟩;rcases(a6k n r z).1 hz with rfl|hz
   ·exact G
   exact A.1 z hz
  split
  ·exact h
  rename_i h1 h2
  refine aY.2 ⟨fun z hz=>?_,h⟩;rcases aA.1 hz with rfl|hz
  ·omega
  have:=A.1 z hz;omega
theorem a7D:∀(p l:List Int) (x:Int),x∈ND l p↔x∈p∨x∈l
 |[],l,x=>by simp[ND]
 |n::r,l,x=>by
  show x∈ND (VZ n l) r↔_;rw[a7D r,a6k,aA];exact⟨fun h=>h.elim (fun h=> .inl (.inr h)) fun h=>h.elim (fun h=> .inl (.inl h)) .inr,fun h=>h.elim (fun h=>h.elim (fun h=> .inr (.inl h)) .inl) fun h=> .inr (.inr h)⟩
theorem a9V:∀(p l:List Int),l.Pairwise (· <·)→(ND l p).Pairwise (· <·)
 |[],_,h=>h
 |n::r,l,h=>a9V r (VZ n l) (b5c n l h)
theorem a0B p x:x∈KU p↔x∈p:=by
 unfold KU;rw[a7D];simp
theorem b2H p:(KU p).Pairwise (· <·):=a9V p [] .nil
theorem uniq{α:Type}{R:α→α→Prop}(A:∀a,¬R a a)(tr:∀a b c,R a b→R b c→R a c):∀{l m:List α},l.Pairwise R→m.Pairwise R→(∀x,x∈l↔x∈m)→l=m
 |[],[],_,_,_=>rfl
 |[],b::m,_,_,h=>by have:=(h b).2 (.head _);cases this
 |a::l,[],_,_,h=>by have:=(h a).1 (.head _);cases this
 |a::l,b::m,h1,h2,h=>by
  have G:=aY.1 h1;have O:=aY.1 h2;have a0:a=b:=by
   rcases aA.1 ((h a).1 (.head _))with g|g
   ·exact g
   rcases aA.1 ((h b).2 (.head _))with k|k
   ·exact k.symm
   exact(A a (tr _ _ _ (G.1 _ k) (O.1 _ g))).elim
  subst a0;rw[uniq A tr G.2 O.2 fun x=>⟨fun Z=>?_,fun Z=>?_⟩]
  ·rcases aA.1 ((h x).1 (.tail _ Z))with g|g
   ·subst g;exact(A _ (G.1 _ Z)).elim
   exact g
  rcases aA.1 ((h x).2 (.tail _ Z))with g|g
  ·subst g;exact(A _ (O.1 _ Z)).elim
  exact g
theorem a7O{p q}(h:q.Pairwise (· <·))(A:∀x,x∈q↔x∈p):q=KU p:=
 uniq (fun a h=>oM) (fun a b c h k=>oM) h (b2H p) fun x=>(A x).trans (a0B p x).symm
def OO (a b:Fd):Bool:=if a.k≠b.k then decide (a.k<b.k)else IW a.t b.t
theorem a8M a:OO a a=false:=by unfold OO;rw[zF sI];exact JI _
theorem a9T{a b c}(h:OO a b=true)(g:OO b c=true):OO a c=true:=by
 unfold OO at*
 by_cases h1:a.k=b.k
 ·rw[zF (by simpa using h1)]at h
  by_cases h2:b.k=c.k
  ·rw[zF (by simpa using h2)]at g;rw[zF (by simpa using h1.trans h2)];exact NU h g
  rw[zG h2]at g;rw[h1,zG h2];exact g
 rw[zG h1,zH]at h
 by_cases h2:b.k=c.k
 ·rw[←h2,zG h1,zH];exact h
 rw[zG h2,zH]at g;have A:=Std.lt_trans h g;have G:a.k≠c.k:=fun e=>by rw[e]at A;exact gK A
 rw[zG G,zH];exact A
def norm (f:Fd):Fd:=⟨f.t,f.k,KU f.p⟩
theorem a4n f:DF (norm f)=DF f:=rfl
structure JR (xs r:List Fd):Prop where
  LD:r.Pairwise fun a b=>OO a b=true
  mem:∀f,f∈r↔∃id g,grp id xs=some g∧norm g=f
theorem JR.uniq{xs r s}(h:JR xs r)(g:JR xs s):r=s:=
 Bk.uniq (R:=fun a b=>OO a b=true) (fun a h=>by rw[a8M]at h;cases h) (fun _ _ _ h k=>a9T h k) h.LD g.LD fun x=>(h.mem x).trans (g.mem x).symm
def same (a b:Fd):Bool:=(!(a.k == [])) && a.k == b.k || (a.k == [] && b.k == [] && a.t == b.t)
theorem same_iff{a b}:same a b=true↔DF a=DF b:=by
 constructor
 ·intro h;refine a8S ?_ fun A=>?_
  ·unfold same at h;simp only[dS,aN,beq_iff_eq]at h;rcases h with h|h
   ·exact h.2
   rw[h.1.1,h.1.2]
  unfold same at h;rw[A]at h;simp only[beq_self_eq_true,Bool.not_true,Bool.false_and,Bool.false_or,gQ,aN,beq_iff_eq]at h;exact h.2
 intro h;have A:=b3K h;unfold same
 by_cases h0:a.k=[]
 ·rw[←A,h0,a7C h h0];simp
 rw[←A];simp[h0]
def a3w:List Fd→Fd→List Fd
 |[],f=>[⟨f.t,f.k,KU f.p⟩]
 |x::r,f=>if same x f then⟨if IW f.t x.t then f.t else x.t,x.k,ND x.p f.p⟩::r else x::a3w r f
def a2s (xs:List Fd):List Fd:=xs.foldl a3w []
theorem a9L xs x:a2s (xs++[x])=a3w (a2s xs) x:=by unfold a2s;rw[dL];rfl
def at1 (id:Idn) (l:List Fd):Option Fd:=l.find? fun f=>decide (DF f=id)
theorem a1m id x r:at1 id (x::r)=if DF x=id then some x else at1 id r:=by
 unfold at1
 by_cases h:DF x=id<;>simp[h]
theorem b4V id f:∀l:List Fd,at1 id (a3w l f)=if DF f=id then some (match at1 id l with|none=>norm f|some x=>⟨if IW f.t x.t then f.t else x.t,x.k,ND x.p f.p⟩)else at1 id l
 |[]=>by unfold a3w;rw[a1m];rfl
 |x::r=>by
  have O:=b4V id f r;unfold a3w
  by_cases hs:same x f=true
  ·rw[zG hs];have A:=same_iff.1 hs;have Z:DF (⟨if IW f.t x.t then f.t else x.t,x.k,ND x.p f.p⟩:Fd)=DF x:=a4e (a:=x) (b:=f) A;rw[a1m,a1m,Z,←A]
   by_cases h:DF x=id
   ·simp only[zG h]
   simp only[zF h]
  rw[zF hs,a1m,a1m,O];have G:DF x≠DF f:=fun g=>hs (same_iff.2 g)
  by_cases h:DF x=id
  ·rw[zG h,zF (fun g=>G (h.trans g.symm)),zG h]
  rw[zF h,zF h]
theorem c5H id xs:at1 id (a2s xs)=(grp id xs).map norm:=by
 refine MV (P:=fun xs=>at1 id (a2s xs)=(grp id xs).map norm) rfl (fun xs x A=>?_) xs;rw[a9L,b4V,XD,A];unfold step1
 by_cases h:DF x=id
 ·rw[zG h,zG h];cases hg:grp id xs with
  |none=>rfl
  |some y=>
   show some (⟨_,_,ND (KU y.p) x.p⟩:Fd)=some (norm (a2e y x));unfold norm a2e;rw[b2h]
 rw[zF h,zF h]
theorem b1A f:∀l:List Fd,((a3w l f).map DF)=if DF f∈l.map DF then l.map DF else l.map DF++[DF f]
 |[]=>by simp[a3w,DF]
 |x::r=>by
  have G:=b1A f r;unfold a3w
  by_cases hs:same x f=true
  ·have h:=same_iff.1 hs;rw[zG hs,aX,aX,zG (c:=DF f∈DF x::r.map DF) (by rw[←h];exact .head _)]
   congr 1
   exact a4e (a:=x) (b:=f) h
  have A:DF f≠DF x:=fun g=>hs (same_iff.2 g.symm);rw[zF hs,aX,aX,G]
  by_cases hm:DF f∈r.map DF
  ·rw[zG hm,zG (.tail _ hm)]
  rw[zF hm,zF (fun g=>(aA.1 g).elim A hm)];rfl
theorem a8l xs:((a2s xs).map DF).Nodup:=by
 refine MV (P:=fun xs=>((a2s xs).map DF).Nodup) List.nodup_nil (fun xs x A=>?_) xs;rw[a9L,b1A]
 split
 ·exact A
 rename_i h
 rw[bC];refine⟨A,sI,fun a O b G=>?_⟩;rw[aB]at G;subst G;exact fun e=>h (e▸O)
theorem c1i{l}(h:(l.map DF).Nodup){f}:f∈l↔at1 (DF f) l=some f:=by
 induction l with
 |nil=>simp[at1]
 |cons x r A=>
  rw[aX,fM]at h;unfold at1
  by_cases he:DF x=DF f
  ·rw[List.find?_cons_of_pos (by simpa using he),aA,Option.some_inj];constructor
   ·rintro(rfl|G)
    ·rfl
    exact absurd (he▸aG G) h.1
   rintro rfl;exact .inl rfl
  rw[List.find?_cons_of_neg (by simpa using he),aA];rw[show List.find? (fun g=>decide (DF g=DF f)) r=at1 (DF f) r from rfl,←A h.2];exact⟨fun h=>h.elim (fun e=>absurd (e▸rfl) he) id,.inr⟩
theorem c1w xs f:f∈a2s xs↔∃id g,grp id xs=some g∧norm g=f:=by
 rw[c1i (a8l xs),c5H];constructor
 ·intro h;cases hg:grp (DF f) xs with
  |none=>rw[hg]at h;cases h
  |some g=>rw[hg]at h;exact⟨_,g,hg,Option.some.inj h⟩
 rintro⟨id,g,hg,rfl⟩;rw[a4n,a7S hg,hg];rfl
theorem b5p{a b}(h:DF a≠DF b):OO a b=true∨OO b a=true:=by
 unfold OO
 by_cases hk:a.k=b.k
 ·rw[zF (by simpa using hk),zF (by simpa using hk.symm)];rcases XL a.t b.t with g|g|g
  ·exact .inl g
  ·exact absurd (a8S hk fun _=>g) h
  exact .inr g
 rw[zG hk,zG (fE hk),zH,zH];rcases Std.le_total (a:=a.k) (b:=b.k)with h1|h1
 ·exact .inl (bM h1 hk)
 exact .inr (bM h1 (fE hk))
end Bk
namespace Bk
open Ix
theorem c4v{xs ls:List Fd}(hn:(ls.map DF).Nodup)(O:∀f,f∈ls↔∃id,grp id xs=some f)(Z:ls.Pairwise fun p q=>OO q p=false):JR xs (ls.map norm):=by
 refine⟨?_,fun f=>?_⟩
 ·rw[bD];have h:=dD.1 hn;rw[bD]at h;exact(dY.2 ⟨Z,h⟩).imp fun {a b} ⟨h1,h2⟩=>(b5p h2).resolve_right (by rw[h1];exact eY)
 rw[aC];exact⟨fun⟨g,hg,A⟩=>let ⟨id,G⟩:=(O g).1 hg;⟨id,g,G,A⟩,fun⟨id,g,G,A⟩=>⟨g,(O g).2 ⟨id,G⟩,A⟩⟩
theorem c4R{xs r}(A:r.Perm (a2s xs))(G:r.Pairwise fun p q=>OO q p=false):JR xs r:=by
 have hn:(r.map DF).Nodup:=(A.map _).nodup_iff.2 (a8l xs);refine⟨?_,fun f=>A.mem_iff.trans (c1w xs f)⟩;have h:=dD.1 hn;rw[bD]at h;exact(dY.2 ⟨G,h⟩).imp fun {a b} ⟨h1,h2⟩=>(b5p h2).resolve_right (by rw[h1];exact eY)
theorem c5n x y z (h:OO x z=true):OO x y=true∨OO y z=true:=by
 by_cases h1:x.k=y.k
 ·by_cases h2:y.k=z.k
  ·unfold OO at *;rw[zF (by simpa using h1.trans h2)]at h;rw[zF (by simpa using h1),zF (by simpa using h2)];rcases XL x.t y.t with g|g|g
   ·exact .inl g
   ·rw[←g];exact .inr h
   exact .inr (NU g h)
  right
  unfold OO at *;rw[zG (h1▸h2)]at h;rw[zG h2,←h1];exact h
 rcases Std.le_total (a:=x.k) (b:=y.k)with g|g
 ·left
  unfold OO;rw[zG h1,zH];exact bM g h1
 right
 have O:y.k<x.k:=bM g (fE h1)
 by_cases h3:x.k=z.k
 ·have A:y.k≠z.k:=fun e=>h1 (h3.trans e.symm);unfold OO;rw[zG A,zH,←h3];exact O
 unfold OO at h;rw[zG h3,zH]at h;have G:=Std.lt_trans O h;have A:y.k≠z.k:=fun e=>by rw[e]at G;exact gK G
 unfold OO;rw[zG A,zH];exact G
def gn (id:Idn) (xs:List Fd):Option Fd:=(grp id xs).map norm
theorem a5K{p q}(h:∀x,x∈p↔x∈q):KU p=KU q:=a7O (b2H p) fun x=>(a0B p x).trans (h x)
def ZX (a b:Rec):Rec:=if IW b a then b else a
theorem b7G a b c:ZX (ZX a b) c=ZX a (ZX b c):=by
 obtain⟨_,_⟩:=a;obtain⟨_,_⟩:=b;obtain⟨c1,_⟩:=c;unfold ZX IW;simp only[dS,aN,zH]
 repeat(first|split|(simp only[Prod.mk.injEq];omega)|omega|rfl)
theorem c0r a:ZX a a=a:=by unfold ZX;rw[JI];rfl
def jn (a b:Fd):Fd:=⟨ZX a.t b.t,a.k,KU (a.p++b.p)⟩
def oj:Option Fd→Option Fd→Option Fd
 |none,o=>o
 |some a,none=>some a
 |some a,some b=>some (jn a b)
theorem c5d a b:jn (norm a) (norm b)=jn a b:=by
 unfold jn norm;simp only;rw[a5K (p:=KU a.p++KU b.p) (q:=a.p++b.p) fun x=>by rw[aI,aI,a0B,a0B]]
theorem c0E a b:norm (a2e a b)=jn (norm a) (norm b):=by rw[c5d];rfl
theorem c3h a b c:jn (jn a b) c=jn a (jn b c):=by
 unfold jn;simp only;rw[b7G,a5K (p:=KU (a.p++b.p)++c.p) (q:=a.p++KU (b.p++c.p)) fun x=>by simp only[aI,a0B];exact or_assoc]
theorem c6N id:gn id []=none:=rfl
theorem a7d id x:gn id [x]=if DF x=id then some (norm x)else none:=by
 show(step1 id none x).map norm=_;unfold step1
 split<;>rfl
theorem a2D id xs x:gn id (xs++[x])=oj (gn id xs) (gn id [x]):=by
 rw[a7d];unfold gn;rw[XD];unfold step1
 by_cases h:DF x=id
 ·rw[zG h,zG h];cases grp id xs with
  |none=>rfl
  |some y=>exact zD some (c0E y x)
 rw[zF h,zF h];cases grp id xs<;>rfl
theorem a5u o:oj o none=o:=by cases o<;>rfl
theorem c1V a b c:oj (oj a b) c=oj a (oj b c):=by
 cases a<;>cases b<;>cases c<;>simp only[oj,c3h]
theorem b9U id xs ys:gn id (xs++ys)=oj (gn id xs) (gn id ys):=by
 refine MV (P:=fun ys=>gn id (xs++ys)=oj (gn id xs) (gn id ys)) ?_ (fun ys y h=>?_) ys
 ·rw[fO,c6N,a5u]
 rw[←bF,a2D,h,a2D,c1V]
def MJ (xs:List Fd):Nat:=(xs.map fun f=>f.p.length).sum
theorem WC xs ys:MJ (xs++ys)=MJ xs+MJ ys:=by unfold MJ;rw[aZ,List.sum_append]
theorem b3o x:MJ [x]=x.p.length:=by simp[MJ]
theorem a8D{id} xs:∀{g:Fd},grp id xs=some g→g.p.length≤MJ xs:=by
 refine MV (P:=fun xs=>∀{g:Fd},grp id xs=some g→g.p.length≤MJ xs) (fun {g} h=>by cases h) (fun xs x A=>?_) xs;intro g h;rw[WC,b3o];rw[XD]at h;unfold step1 at h
 split at h
 ·cases hg:grp id xs with
  |none=>
   rw[hg]at h;cases h;show x.p.length≤_;omega
  |some y=>
   rw[hg]at h;cases h;have:=A hg;show(y.p++x.p).length≤_;rw[fA];omega
 have:=A h;omega
theorem b5r{id} xs:∀{g:Fd},grp id xs=some g→id∈xs.map DF:=by
 refine MV (P:=fun xs=>∀{g:Fd},grp id xs=some g→id∈xs.map DF) (fun {g} h=>by cases h) (fun xs x A=>?_) xs;intro g h;rw[XD]at h;rw[aZ,aI];unfold step1 at h
 split at h
 ·rename_i G;exact .inr (by simp[G])
 exact .inl (A h)
end Bk
namespace Go.Proofs.YtojdemmgkdokmaaGreatDoor
open Go Go.Shelf Go.RowKit Go.Lib Go.Sort
structure Fv where
  f:Bk.Fd
  a:Option Addr
  c:Nat
deriving Inhabited
abbrev Fv.v (x:Fv):Value:= .slice x.a x.f.p.length x.c
abbrev FK (x:Fv):List Value:=[.int .i64 x.f.t.1,.int .i64 x.f.t.2,Sx.str x.f.k,x.v]
theorem EO x:(FK x).length=4:=rfl
theorem c5V x:(FK x).all gB=true:=rfl
def a8i (x y:Fv):Int:=NH (NR x.f.k y.f.k) (a0C x.f.t y.f.t)
theorem a3m x y:ltOf a8i x y=Bk.OO x.f y.f:=by
 have hr:=UL x.f.t y.f.t;unfold ltOf at hr ⊢;unfold a8i Bk.OO NH NR
 by_cases h:x.f.k<y.f.k
 ·have A:x.f.k≠y.f.k:=fun e=>by rw[e]at h;exact List.lt_irrefl _ h
  rw[zG h,zG A,zI h];rfl
 rw[zF h]
 by_cases h2:y.f.k<x.f.k
 ·have A:x.f.k≠y.f.k:=fun e=>h (e▸h2);rw[zG h2,zG A,zJ h];rfl
 have G:x.f.k=y.f.k:=List.le_antisymm (List.not_lt.1 h2) (List.not_lt.1 h);rw[zF h2,zF sI,zF (by simpa using G)];exact hr
theorem b9Y : SWO (ltOf a8i) where
  irrefl x := by rw [a3m]; exact Bk.a8M _
  trans x y z h1 h2 := by rw [a3m] at *; exact Bk.a9T h1 h2
  ntrans x y z h1 h2 := by
    rw [a3m] at *
    cases h : Bk.OO x.f z.f with
    | false => rfl
    | true => rcases Bk.c5n x.f y.f z.f h with g | g
              · rw [h1] at g; cases g
              rw [h2] at g; cases g
theorem b8M{base} l g (hg:Sx.CU base 4 l.length (l.flatMap FK) g)(hl:l.length≤100000000000000) I:Sx.yT bY 105 [Sx.gV l.length g,.func (.func 33) #[] #[]] I (Sx.gH 41 (l.flatMap FK) g)
 (fun e a2 H'=>∃l':List Fv,l'.Perm l∧l'.Pairwise (fun p q=>Bk.OO q.f p.f=false)∧e= .returned (.tuple #[])∧H'=Sx.gH 41 (l'.flatMap FK) g):=by
 cases g with
 |none=>
  obtain⟨h1,h2⟩:=hg;have h0:l=[]:=aW.1 h1;subst h0;exact(fP (Sx.Enters.of gW dE rfl) (fun w _=>dN Tryz.sortD none 0 (.func (.func 33) #[] #[]) w)).mono fun e _ H' _ ⟨h1,_,h3⟩=>⟨[],gG _,List.Pairwise.nil,h1,h3⟩
 |some q=>
  obtain⟨b,c,sp⟩:=q;refine⟨Sx.Enters.of gW dE rfl,fun w hw=>?_⟩;have G:=hw.2.1 _ (.head _);have a0:b<w.heap.size:=by
   rcases aU b w.heap.size with h|h
   ·exact h
   rw[aS h]at G;cases G
  have eg:∀args w,(callFunc 33 args).run bY w= .ok (.enter 33 args) w:=enters_of Tryz.func33 kR rfl;have hH:HoldsK FK 4 w b 0 l.toArray:=by
   unfold HoldsK;rw[dF EO];exact Sx.XY G
  have O:CmpLays bY 33 #[] FK 4 a8i b 0 l.toArray.size w:=fun m os _ _ x y=>b7W x.f.k y.f.k x.f.t.1 x.f.t.2 y.f.t.1 y.f.t.2 _ _ _;have Z:=eP Tryz.sortD 4 UU EL FK EO (fun x v hv=>by
   simp only[aA,fG,or_false]at hv;rcases hv with rfl|rfl|rfl|rfl<;>rfl) a8i b9Y 33 #[] b 0 c l.toArray w eg O hH a0 (by simp;omega)
  refine Z.mono fun e w' ⟨h1,A,n,os,h2,h3,h4⟩=>?_;rw[dM]at h2 h3;have hp:=Sx.VN h2;have a1:A.size=l.length:=by have:=hp.length_eq;simpa using this
  rw[←a1]at h3;refine⟨I,_,?_,A.toList,hp,(Sx.sorted_in h3).imp fun h=>?_,h1,rfl⟩
  ·rw[h4];unfold sortWorldK putRowK;rw[show A=A.toList.toArray from(eU (xs:=A)).symm,dF EO];exact Sx.St.b1u n os hw (by rw[dU EO,dU EO,hp.length_eq])
  rw[a3m]at h;exact h
theorem c0e{base} l g (hg:Sx.CU base 2 l.length (l.flatMap CW) g)(hl:l.length≤100000000000000) I:Sx.yT bY 157 [Sx.gV l.length g,.func (.func 53) #[] #[]] I (Sx.gH 80 (l.flatMap CW) g)
 (fun e a2 H'=>∃l':List (List UInt8×Int),l'.Perm l∧l'.Pairwise (fun p q=>¬q.1<p.1)∧e= .returned (.tuple #[])∧H'=Sx.gH 80 (l'.flatMap CW) g):=by
 cases g with
 |none=>
  obtain⟨h1,h2⟩:=hg;have h0:l=[]:=aW.1 h1;subst h0;exact(fP (Sx.Enters.of gX dE rfl) (fun w _=>dN Tryz.sortL none 0 (.func (.func 53) #[] #[]) w)).mono fun e _ H' _ ⟨h1,_,h3⟩=>⟨[],gG _,List.Pairwise.nil,h1,h3⟩
 |some q=>
  obtain⟨b,c,sp⟩:=q;refine⟨Sx.Enters.of gX dE rfl,fun w hw=>?_⟩;have G:=hw.2.1 _ (.head _);have a0:b<w.heap.size:=by
   rcases aU b w.heap.size with h|h
   ·exact h
   rw[aS h]at G;cases G
  have eg:∀args w,(callFunc 53 args).run bY w= .ok (.enter 53 args) w:=enters_of Tryz.func53 kR rfl;have hH:HoldsK CW 2 w b 0 l.toArray:=by
   unfold HoldsK;rw[dF GH];exact Sx.XY G
  have O:CmpLays bY 53 #[] CW 2 ZM b 0 l.toArray.size w:=fun m os _ _ x y=>c2s x.1 y.1 x.2 y.2 _;have Z:=eP Tryz.sortL 2 YV IQ CW GH (fun x v hv=>by
   simp only[aA,fG,or_false]at hv;rcases hv with rfl|rfl<;>rfl) ZM a5P 53 #[] b 0 c l.toArray w eg O hH a0 (by simp;omega)
  refine Z.mono fun e w' ⟨h1,A,n,os,h2,h3,h4⟩=>?_;rw[dM]at h2 h3;have hp:=Sx.VN h2;have a1:A.size=l.length:=by have:=hp.length_eq;simpa using this
  rw[←a1]at h3;refine⟨I,_,?_,A.toList,hp,(Sx.sorted_in h3).imp fun h=>?_,h1,rfl⟩
  ·rw[h4];unfold sortWorldK putRowK;rw[show A=A.toList.toArray from(eU (xs:=A)).symm,dF GH];exact Sx.St.b1u n os hw (by rw[dU GH,dU GH,hp.length_eq])
  rw[ZE]at h;exact BN h
end Go.Proofs.YtojdemmgkdokmaaGreatDoor
namespace Go.Proofs
open _root_.Go.Proofs.Tryz
open Go.Shelf
def Tryz.b0o:Go.Shelf.Ren:=⟨fun|4=>64|n=>n,fun|22=>39|25=>3|3=>3|4=>4|9=>9|20=>20|0=>0|n=>n,fun|n=>n⟩
theorem Tryz.growI:iC bY Tryz.b0o:={
 mixed:=kR
 f4:=⟨Tryz.f64.name,dE,func64.trans (zD some kR)⟩
 t0:=underlying0
 a0:=isAgg0
 z0:=sizeOf0
 v0:=zeroValue0
 t3:=underlying3
 a3:=isAgg3
 z3:=sizeOf3
 v3:=zeroValue3
 t4:=underlying4
 a4:=isAgg4
 z4:=sizeOf4
 v4:=zeroValue4
 t9:=underlying9
 a9:=isAgg9
 z9:=sizeOf9
 v9:=zeroValue9
 t20:=underlying20
 a20:=isAgg20
 z20:=sizeOf20
 v20:=zeroValue20
 t22:=underlying39
 a22:=isAgg39
 z22:=sizeOf39
 v22:=zeroValue39 }
end Go.Proofs
namespace Go.Sx
open Go
def YSG {σ:Type} (P:Program) (l:Nat) (nx:Heap→σ→List Value→σ→Prop) (Y:σ→Heap→HL→Prop) (Z:Heap→HL→Prop):Prop:=
 ∀s args s' I H,nx I s args s'→Y s I H→YC P l args I H (fun e I' H'=>(e= .returned (.bool true)∧Y s' I' H')∨(e= .returned (.bool false)∧Z I' H'))
def a2n {σ:Type} (P:Program) (f:FuncId) (fst cap:List Value) (I:Heap) (s0:σ) (nx:Heap→σ→List Value→σ→Prop) (fin:σ→Prop):Prop:=
 Enters P f∧∀(l:Nat) (Y:σ→Heap→HL→Prop) (Z:Heap→HL→Prop),(∀s I1 I2 H,Le I1 I2→Y s I1 H→Y s I2 H)→YSG P l nx Y Z→
  ∀H,Y s0 I H→yT P f (fst++[.func (.yield l) #[] #[]]++cap) I H (fun e I' H'=>e= .returned (.tuple #[])∧((∃s,fin s∧Y s I' H')∨Z I' H'))
section
variable {σ:Type} {cx:Cx} {Q:Qt} {e:Env} {I:Heap} {H:HL} {l:Nat} {r:Loop}
theorem Cj.a3L{g ps assign body f a6 a7 H1 R} s0 (nx:Heap→σ→List Value→σ→Prop)(fin:σ→Prop)(Y:σ→Heap→HL→Prop)(Z:Code→Heap→HL→Prop)
 (hr:cx.rd=none)(ak:∀t∈ps,Nat.blt t cx.n=true)(ag:∀I s args s',nx I s args s'→args.length=ps.length)(hg:ev e g=some (.func (.func f) a6.toArray a7.toArray))(aa:a2n cx.P f a6 a7 I s0 nx fin)
 (ad:∀k O I2 H,Le O I2→Y k O H→Y k I2 H)(h0:Y s0 I H1)
 (round:∀l r k args k2 O G w0,nx O k args k2→Le I O→Y k O G→
  Cj ⟨cx.P,cx.n,w0,l::G.map (·.1),O,[],some l⟩ (c3k ⟨cx.P,cx.n,w0,l::G.map (·.1),O,[],some l⟩ l r body (RdQ ⟨cx.P,cx.n,w0,l::G.map (·.1),O,[],some l⟩ l r (Y k2) Z)) assign (a7M ps args e) O ((l,.loop r)::G))
 (done:∀b s I' H',fin s→Le I I'→Y s I' H'→Ej { cx with ds:=OG b::cx.ds } Q .normal e I' ((b,.deferred (some []))::(H'++R)))
 (left:∀b c I' H',Le I I'→Z c I' H'→Cj { cx with ds:=OG b::cx.ds } Q c e I' ((b,.deferred (some []))::(H'++R))):
 Cj cx Q (.rangeFunc g ps.toArray assign body) e I (H1++R):=by
 intro a w ha al;rw[Cx.wide hr];refine wpIn_rangeFunc fun fn _=>?_;obtain⟨r,a0⟩:∃r:Loop,r={ state:= .ready,pending:=none,fn:=fn,tmps:=a.tmps,params:=ps.toArray,assign:=assign,body:=body,defers:=w.heap.size }:=⟨_,rfl⟩;obtain⟨l,hl⟩:∃l,l=w.heap.size+1:=⟨_,rfl⟩;have a3:St cx.w0 cx.D cx.I0 I (((l,.loop r)::H1)++((w.heap.size,.deferred (some []))::R)) ((w.alloc (.deferred (some []))).alloc (.loop r)):=by
  have h1:=(al.alloc (.deferred (some []))).alloc (.loop r);have h2:(w.heap.push (.deferred (some []))).size=l:=by rw[hl,Array.size_push]
  rw[h2]at h1;refine h1.perm ?_;show((l,Obj.loop r)::(H1++(w.heap.size,Obj.deferred (some []))::R)).Perm _;exact List.Perm.cons _ bU
 let Y':σ→Heap→HL→Prop:=fun k O H=>Le I O∧∃G,H=(l,.loop r)::G∧Y k O G
 let Z':Heap→HL→Prop:=fun O H=>∃c G,H=(l,.loop { r with state:= .done,pending:=some c })::G∧Z c O G
 have am:YSG cx.P l nx Y' Z':=by
  rintro k args k2 O H hk ⟨hle,G,rfl,hY⟩ w1 A;have an:w1.heap[l]?=some (.loop r):=A.2.1 _ (.head _);have ao:=ag _ _ _ _ hk;refine⟨r.fn,_,r.assign,r.body,run_yield an (by rw[a0];simp[ao]),roundIn_of_wpIn trivial ?_⟩;have hz:(r.params.zip args.toArray).foldl (fun tmps (x:Tmp×Value)=>tmps.setIfInBounds x.1 x.2) r.tmps=(ps.zip args).foldl (fun tmps (x:Tmp×Value)=>tmps.setIfInBounds x.1 x.2) a.tmps:=by
   rw[a0];simp[List.zip_toArray]
  have ab:=Has.zip (n:=cx.n) ps args e a.tmps ak ⟨ha.size,rfl,ha.get⟩;rw[←hz]at ab;have hc:=round l r k args k2 O G w1 hk hle hY _ _ ab (St.start w1 O ((l,.loop r)::G) A.1 A.2.1 A.2.2.1 A.2.2.2);have e1:r.assign=assign:=by rw[a0]
  have e2:r.body=body:=by rw[a0]
  rw[e1,e2];refine wpIn_mono hc ?_;rintro x a2 _ hq;cases x with
  |normal=>
   obtain⟨e2,I2,_,a8,ae,hb⟩:=hq;refine⟨_,run_beginRound (ae.own _ (.head _)) (by rw[a0]),?_⟩;have ap:=ae.block (i:=0) (o':= .loop { r with state:= .busy }) rfl fB;refine wpIn_mono (hb a2 _ a8 ap) ?_;rintro x _ _ a4;cases x with
   |normal=>
    obtain⟨I3,H3,a1,aq⟩:=a4;refine⟨_,_,run_endRound none (a1.own _ (.head _)),I3,(l,.loop r)::H3,?_,.inl ⟨rfl,hle.trans a1.le,H3,rfl,aq⟩⟩;have:=a1.block (i:=0) (o':= .loop r) rfl fB;rw[a0]at this ⊢;exact this
   |ret=>
    obtain⟨I3,H3,a1,ac⟩:=a4;exact⟨_,_,run_endRound (some .ret) (a1.own _ (.head _)),I3,_,a1.block (i:=0) rfl fB,.inr ⟨rfl,_,H3,rfl,ac⟩⟩
   |exit id=>
    obtain⟨I3,H3,a1,ac⟩:=a4;exact⟨_,_,run_endRound (some (.exit id)) (a1.own _ (.head _)),I3,_,a1.block (i:=0) rfl fB,.inr ⟨rfl,_,H3,rfl,ac⟩⟩
   |goto t=>exact a4.elim
   |panic ch=>exact a4.elim
   |outgrown=>exact a4.elim
  |exit id=>exact hq.elim
  |goto t=>exact hq.elim
  |ret=>exact hq.elim
  |panic ch=>exact hq.elim
  |outgrown=>exact hq.elim
 have ah:=aa.2 l Y' Z' (fun k O I2 H hle ⟨h1,G,h2,h3⟩=>⟨h1.trans hle,G,h2,ad _ _ _ _ hle h3⟩) am ((l,.loop r)::H1) ⟨dZ _,H1,rfl,h0⟩;have A:Ready I ((l,.loop r)::H1) ((w.alloc (.deferred (some []))).alloc (.loop r)):=⟨a3.sub,fun p hp=>a3.own p (eX _ hp),by
  have:=a3.nodup;rw[aZ,bC]at this;exact this.1,fun p hp=>a3.dis p (eX _ hp)⟩
 have ai:(Instr.enterLoop fn a.tmps ps.toArray assign body none).run cx.P w= .ok (l,[OG w.heap.size]) ((w.alloc (.deferred (some []))).alloc (.loop r)):=by
  rw[hl,a0];exact run_enterLoop_outer fn a.tmps ps.toArray assign body
 refine⟨l,[OG w.heap.size],(w.alloc (.deferred (some []))).alloc (.loop r),⟨.fn (.func f) a7.toArray,(a6++[fQ (.yield l) #[] #[]]).toArray⟩,(w.alloc (.deferred (some []))).alloc (.loop r),f,(a6++[fQ (.yield l) #[] #[]]++a7).toArray,(w.alloc (.deferred (some []))).alloc (.loop r),ai,?_,fun _ _=>trivial,?_,fun h=>by simp[Fence.wide]at h,callsIn_wide.2 ?_⟩
 ·have he:a.eval (.const (.func (.yield l) #[] #[]))= .func (.yield l) #[] #[]:=rfl;simp[resolve,ha.eval hg,Deferred.ofValue,he]
 ·have h:=OH aa.1 (a6++[fQ (.yield l) #[] #[]]++a7).toArray ((w.alloc (.deferred (some []))).alloc (.loop r));simpa[invoke]using h
 refine(ah.2 _ A).mono ?_;rintro _ w' ⟨I',H',af,rfl,ar⟩;have a5:=a3.call af;have hle:=af.le;have a8:Has { a with defers:=[OG w.heap.size]++a.defers } cx.n e (OG w.heap.size::cx.ds):=⟨ha.size,by simp[ha.defs],ha.get⟩;rcases ar with⟨sE,aj,_,G,rfl,hY⟩|⟨c,G,rfl,hZ⟩
 ·refine⟨_,_,run_endLoop (a5.own _ (.head _)) (by rw[a0];simp),?_⟩;have a9:=((a5.block (i:=0) (o':= .loop { r with state:= .exhausted }) rfl fB).sublist (dV _ _)).perm (H':=(w.heap.size,.deferred (some []))::(G++R)) bU.symm;have hp:r.pending=none:=by rw[a0]
  rw[hp]at a9 ⊢;exact done w.heap.size sE I' G aj hle hY _ _ a8 a9
 refine⟨_,_,run_endLoop (a5.own _ (.head _)) sI,?_⟩;have a9:=((a5.block (i:=0) (o':= .loop { { r with state:= .done,pending:=some c }with state:= .exhausted }) rfl fB).sublist (dV _ _)).perm (H':=(w.heap.size,.deferred (some []))::(G++R)) bU.symm;have hw:=left w.heap.size c I' G hle hZ _ _ a8 a9;have hF:({ cx with ds:=OG w.heap.size::cx.ds }:Cx).F=Fence.wide:=Cx.wide hr;rw[hF]at hw;exact hw
end
section
variable {cx:Cx} {Q:Qt} {o:Oper} {e:Env} {I:Heap} {H:HL} {C:Ct} {S:World→Prop} {α:Type} [BEq α] [LawfulBEq α]
def ZI (m since:Nat) (vis:ML α) (last:Nat):Obj:= .mapIter (some m) since (vis.map (·.2.2)).toArray last
omit [BEq α] [LawfulBEq α] in
theorem NZ{T K E d m c:Nat}{x:Operand}{kv:α→Value}{l:ML α}(A:o.op= .range T x)(hd:o.dst=some d)(hn:fF d cx.n=true)(G:ev e x=some (.map (some m)))(O:cx.P.underlying T=some (.map K E))(Z:yR (SS I H) m (BD kv l c))
 (k:∀b,cx.w0.heap.size≤b→C ((d,ptr b 0)::e) I ((b,ZI m c ([]:ML α) c)::H)):GZ cx Q o e I H C:=by
 intro _ hK a w h hs;unfold eF;have:(execOp a.eval o).run cx.P w= .ok (.value (ptr w.heap.size 0)) { w with heap:=w.heap.push (ZI m c ([]:ML α) c) }:=by
  have hr:=run_range_map (P:=cx.P) w T K E m _ c O (Z w hs.ss);simp only[execOp,A,h.eval G,aJ,hr,aQ,fC];rfl
 rw[this];simp only[bZ,hd];exact hK _ _ _ (k _ hs.size) _ _ (h.put hn) (hs.alloc _)
theorem PX{T K E d x}(A:o.op= .range T x)(hd:o.dst=some d)(hn:fF d cx.n=true)(G:ev e x=some (.map none))(O:cx.P.underlying T=some (.map K E))
 (k:∀b,cx.w0.heap.size≤b→C ((d,ptr b 0)::e) I ((b,.mapIter none 0 #[] 0)::H)):GZ cx Q o e I H C:=by
 intro _ Z a w h hs;unfold eF;have:(execOp a.eval o).run cx.P w= .ok (.value (ptr w.heap.size 0)) { w with heap:=w.heap.push (.mapIter none 0 #[] 0) }:=by
  have hr:=run_range_nilMap (P:=cx.P) w T K E O;simp only[execOp,A,h.eval G,aJ,hr,aQ,fC];rfl
 rw[this];simp only[bZ,hd];exact Z _ _ _ (k _ hs.size) _ _ (h.put hn) (hs.alloc _)
theorem RZ{d b x}(i:Nat)(A:o.op= .next x false)(hd:o.dst=some d)(hn:fF d cx.n=true)(G:ev e x=some (ptr b 0))(O:H[i]?=some (b,.mapIter none 0 #[] 0))
 (k:C ((d,.tuple #[.bool false])::e) I H):GZ cx Q o e I H C:=by
 intro _ Z a w h hs;unfold eF;have hb:=hs.own _ (cZ O);have:(execOp a.eval o).run cx.P w= .ok (.value (.tuple #[.bool false])) w:=by
  simp only[execOp,A,h.eval G,Instr.next,getObj,aJ,Sem.run,hb,Result.andThen];rfl
 rw[this];simp only[bZ,hd];exact Z _ _ _ k _ _ (h.put hn) hs
omit [BEq α] [LawfulBEq α] in
theorem PI{d b m A last c x kv l vis rest} i (ho:o.op= .next x false)(hd:o.dst=some d)(hn:fF d cx.n=true)(hx:ev e x=some (ptr b 0))(hH:H[i]?=some (b,ZI m A vis last))(hm:yR (SS I H) m (BD kv l c))
 (a8:∀p∈l,p.2.2<A)(aa:A≤last)(ab:(l.map (·.2.2)).Nodup)(Z:(vis++rest).Perm l)
 (k1:∀(p:α×Value×Nat) (r:ML α) (H':HL),rest.Perm (p::r)→(vis++[p]++r).Perm l→AV H i (b,ZI m A (vis++[p]) c) H'→C ((d,.tuple #[.bool true,kv p.1,p.2.1])::e) I H')
 (k0:rest=[]→C ((d,.tuple #[.bool false])::e) I H):GZ cx Q o e I H C:=by
 intro _ hK a w ha hs;unfold eF;have hb:=hs.own _ (cZ hH);have ac:=hm w hs.ss;have a9:=run_next_at (P:=cx.P) w o.type b m A last _ _ c hb ac (by
  intro y hy;simp only[aC]at hy;obtain⟨p,Z,rfl⟩:=hy;exact a8 p Z) aa
 have O:((vis++rest).map (·.2.2)).Nodup:=(Z.map _).nodup_iff.2 ab;have a1:(execOp a.eval o).run cx.P w=((Instr.next (.pointer (some ⟨b,0,none⟩)) false o.type).run cx.P w).andThen fun v w'=> .ok (.value v) w':=by
  simp only[execOp,ho,ha.eval hx,aJ];rfl
 have a6:∀p:α×Value×Nat,p∈l→((vis.map (·.2.2)).toArray.contains p.2.2=true↔p∈vis):=fun p G=>by
  have ad:p∈vis++rest:=Z.mem_iff.2 G;rw[Array.contains_iff_mem];simp only[dP,aC];constructor
  ·rintro⟨q,hq,he⟩;rcases aI.1 ad with h|h
   ·exact h
   rw[aZ,bC]at O;exact absurd he (O.2.2 _ (aG hq) _ (aG h))
  exact fun h=>⟨p,h,rfl⟩
 rcases a9 with⟨h0,hr⟩|⟨en,ae,w1,af,hr⟩
 ·rw[a1,hr];simp only[aQ,bZ,hd];refine hK _ _ _ (k0 ?_) _ _ (ha.put hn) hs;rcases rest with _|⟨p,r⟩
  ·rfl
  exfalso
  have G:p∈l:=Z.mem_iff.1 (List.mem_append_right _ (.head _));have a3:p ∉ vis:=fun h=>by
   rw[aZ,bC]at O;exact O.2.2 _ (aG h) _ (aG (.head _)) rfl
  have:KX kv p∈leftOf (l.map (KX kv)).toArray (vis.map (·.2.2)).toArray:=by
   unfold leftOf;rw[fH];refine⟨by simp only[dP];exact aG G,?_⟩;have:=(not_congr (a6 p G)).2 a3;simp only[Bool.not_eq_true]at this;show(!gI _ p.2.2)=true;rw[this];rfl
  have h1:=Array.eq_empty_of_size_eq_zero h0;rw[h1]at this;simp at this
 rw[a1,hr];simp only[aQ,bZ,hd];have a0:en∈leftOf (l.map (KX kv)).toArray (vis.map (·.2.2)).toArray:=by simpa using ae
 unfold leftOf at a0;rw[fH]at a0;obtain⟨a7,a4⟩:=a0;simp only[dP,aC]at a7;obtain⟨p,G,rfl⟩:=a7;have a3:p ∉ vis:=fun h=>by
  have:=(a6 p G).2 h
  change (!gI _ p.2.2)=true at a4
  rw[this]at a4;cases a4
 have ag:p∈rest:=(aI.1 (Z.mem_iff.2 G)).resolve_left a3;obtain⟨r1,r2,ah⟩:=fD ag;have a2:rest.Perm (p::(r1++r2)):=by rw[ah];exact bU
 have a5:(vis++[p]++(r1++r2)).Perm l:=by
  refine List.Perm.trans ?_ Z;rw[bF];exact List.Perm.append_left _ a2.symm
 have hset:AV H i (b,ZI m A (vis++[p]) c) (H.set i (b,ZI m A (vis++[p]) c)):=⟨(bK.1 hH).1,rfl⟩;have hk:=k1 p (r1++r2) _ a2 a5 hset;have ai:St cx.w0 cx.D cx.I0 I (H.set i (b,ZI m A (vis++[p]) c)) (ChangeMaps.setBlock w1 b (.mapIter (some m) A ((vis.map (·.2.2)).toArray.push p.2.2) c)):=by
  have he:(.mapIter (some m) A ((vis.map (·.2.2)).toArray.push p.2.2) c:Obj)=ZI m A (vis++[p]) c:=by simp[ZI]
  rw[show(KX kv p).born=p.2.2 from rfl]at *;rw[he];rcases af with rfl|rfl
  ·exact hs.block hH hset
  exact(hs.drewN (w.drawn+1)).block hH hset
 exact hK _ _ _ hk _ _ (ha.put hn) ai
omit [LawfulBEq α] in
theorem MQ{T K E m x}{kv:α→Value}{a z}{h:Value}(Z:o.op= .lookup T m x false)(hm:ev e m=some (.map none))(hx:ev e x=some h)(A:h=kv a)(hT:cx.P.underlying T=some (.map K E))(G:IK cx.P K kv)(hz:∀w,(zeroValue E).run cx.P w= .ok z w):DK cx o e S z:=by
 intro w0 w O _;subst A;have h1:=G.1 a [] w;have h2:(Instr.findKey K (kv a) []).run cx.P w= .ok none w:=h1;simp[execOp,Z,O.eval hm,O.eval hx,Instr.lookup,run_underlying hT,G.2.1,h2,hz]
omit [BEq α] [LawfulBEq α] in
theorem XM{x:Operand}{T K E b c:Nat}{kv:α→Value}{l:ML α}(A:o.op= .call ⟨.builtin .len,#[x],#[T]⟩)(G:ev e x=some (.map (some b)))(O:cx.P.underlying T=some (.map K E))(Z:yR S b (BD kv l c)):DK cx o e S (i64 (l.length:Int)):=by
 intro a w ha hs;have h:=Z w hs;simp[execOp,A,resolve,invoke,builtin,gY,ha.eval G,run_underlying O,goInt,getObj,Sem.run,h,BD]
theorem b1x{x T K E}(h:o.op= .call ⟨.builtin .len,#[x],#[T]⟩)(A:ev e x=some (.map none))(G:cx.P.underlying T=some (.map K E)):DK cx o e S (i64 0):=by
 intro a w O _;simp[execOp,h,resolve,invoke,builtin,gY,O.eval A,run_underlying G,goInt]
end
section
variable {P:Program} {K i:TypeId} {f0 f1:Field}
theorem a0E{xs t off v w}(h:∀w,(isAgg t).run P w= .ok false w)(A:xs[off]?=some v):(part t xs off).run P w= .ok v w:=by
 simp[part,h,A]
theorem WG(G:P.underlying K=some (.struct #[f0,f1]))(Z:P.stoodInHeld K=false)(n0:f0.name≠ "_")(n1:f1.name≠ "_")(o0:f0.offset=0)(o1:f1.offset=1)(a0:∀w,(isAgg f0.type).run P w= .ok false w)(a1:∀w,(isAgg f1.type).run P w= .ok false w)
 {x0 x1 y0 y1 h A} w (e0:∀d w,(aT (d+1) f0.type x0 y0).run P w= .ok h w)(O:∀d w,(aT (d+1) f1.type x1 y1).run P w= .ok A w):∀d,(aT (d+2) K (.agg #[x0,x1]) (.agg #[y0,y1])).run P w= .ok (h && A) w:=by
 intro d;have hf:P.fieldsOf K= #[f0,f1]:=by simp[fJ,G]
 rw[run_equalIn_struct w (d+1) K _ _ (by rw[hf];exact G) Z,hf];have p0:∀(a b:Value) w,(part f0.type #[a,b] f0.offset).run P w= .ok a w:=fun a b w=>a0E a0 (by rw[o0];rfl);have p1:∀(a b:Value) w,(part f1.type #[a,b] f1.offset).run P w= .ok b w:=fun a b w=>a0E a1 (by rw[o1];rfl);simp only[Op.eqFields,n0,n1,ne_eq,not_false_eq_true,if_true,aJ,p0,p1,e0,O,aQ];cases h
 ·simp
 cases A<;>simp[aJ,p1,O]
theorem a2m(G:P.underlying K=some (.struct #[f0,f1]))(O:f0.name≠ "_")(Z:f1.name≠ "_")(o0:f0.offset=0)(o1:f1.offset=1)(a0:∀w,(isAgg f0.type).run P w= .ok false w)(a1:∀w,(isAgg f1.type).run P w= .ok false w)
 {x0 x1} b w (e0:∀d w,(aF b (d+1) f0.type x0).run P w= .ok () w)(e1:∀d w,(aF b (d+1) f1.type x1).run P w= .ok () w):∀d,(aF b (d+2) K (.agg #[x0,x1])).run P w= .ok () w:=by
 intro d;have p0:∀w,(part f0.type #[x0,x1] f0.offset).run P w= .ok x0 w:=fun w=>a0E a0 (by rw[o0];rfl);have p1:∀w,(part f1.type #[x0,x1] f1.offset).run P w= .ok x1 w:=fun w=>a0E a1 (by rw[o1];rfl);have h:=e0 d;have A:=e1 d;generalize hc:aF b (d+1)=ck at h A;rw[show d+2=(d+1)+1 from rfl,aF];rw[hc];simp[aJ,run_underlying G,O,Z,p0,p1,h,A]
theorem a1R{b t k}(h:P.underlying t=some (.int k)) a d w:(aF b (d+1) t (.int k a)).run P w= .ok () w:=by simp[aF,run_underlying h]
theorem IK.b6R(Z:P.underlying K=some (.struct #[f0,f1]))(hp:P.stoodInHeld K=false)(n0:f0.name≠ "_")(n1:f1.name≠ "_")(o0:f0.offset=0)(o1:f1.offset=1)(t0:f0.type=i)(A:f1.type=i)(G:P.underlying i=some (.int .i64))(O:∀w,(isAgg i).run P w= .ok false w):
 IK P K (fun a:Int×Int=> .agg #[i64 a.1,i64 a.2]):=by
 subst t0;refine fU Z (fun a b=>rfl) (fun a b w=>?_) (fun b a w=>?_) (fun a=>?_)
 ·have h:=WG Z hp n0 n1 o0 o1 O (A▸O) (x0:=i64 a.1) (x1:=i64 a.2) (y0:=i64 b.1) (y1:=i64 b.2) w (fun d w=>run_equalIn_int w d _ .i64 .i64 a.1 b.1 G) (fun d w=>run_equalIn_int w d _ .i64 .i64 a.2 b.2 (A▸G)) 9998;exact h
 ·exact a2m Z n0 n1 o0 o1 O (A▸O) b w (fun d w=>a1R G _ d w) (fun d w=>a1R (A▸G) _ d w) 9998
 show bG (9999+1) _ _=true;simp[bG]
end
section
variable {P:Program} {K i:TypeId} {f0 f1:Field}
theorem a4K{b t}(h:P.underlying t=some .string) a d w:(aF b (d+1) t (str a)).run P w= .ok () w:=by simp[aF,run_underlying h]
theorem a1W{t}(A:P.underlying t=some .string) a b d w:(aT (d+1) t (str a) (str b)).run P w= .ok (a == b) w:=by
 have h:((⟨a.toArray⟩:ByteArray) == ⟨b.toArray⟩)=(a == b):=by
  show(a.toArray == b.toArray)=(a == b);simp
 simp[aT,run_underlying A,str,h]
theorem IK.c6T(Z:P.underlying K=some (.struct #[f0,f1]))(hp:P.stoodInHeld K=false)(n0:f0.name≠ "_")(n1:f1.name≠ "_")(o0:f0.offset=0)(o1:f1.offset=1)(t0:f0.type=i)(A:f1.type=i)(G:P.underlying i=some .string)(O:∀w,(isAgg i).run P w= .ok false w):
 IK P K (fun a:List UInt8×List UInt8=> .agg #[str a.1,str a.2]):=by
 subst t0;refine fU Z (fun a b=>rfl) (fun a b w=>?_) (fun b a w=>?_) (fun a=>?_)
 ·have h:=WG Z hp n0 n1 o0 o1 O (A▸O) (x0:=str a.1) (x1:=str a.2) (y0:=str b.1) (y1:=str b.2) w (fun d w=>a1W G a.1 b.1 d w) (fun d w=>a1W (A▸G) a.2 b.2 d w) 9998;exact h
 ·exact a2m Z n0 n1 o0 o1 O (A▸O) b w (fun d w=>a4K G _ d w) (fun d w=>a4K (A▸G) _ d w) 9998
 show bG (9999+1) _ _=true;have h:=fun x n=>a1A x n;simp[bG,h]
end
section
variable {P:Program} {K L i s:TypeId} {f0 f1 g0 g1:Field}
theorem b8s{xs ys t off n w}(h:∀w,(isAgg t).run P w= .ok true w)(hs:∀w,(sizeOf t).run P w= .ok n w)(A:xs.extract off (off+n)=ys):(part t xs off).run P w= .ok (.agg ys) w:=by
 simp[part,h,hs,A]
theorem IK.c5i(Z:P.underlying K=some (.struct #[f0,f1]))(hp:P.stoodInHeld K=false)(n0:f0.name≠ "_")(n1:f1.name≠ "_")(o0:f0.offset=0)(o1:f1.offset=1)(t0:f0.type=s)(t1:f1.type=L)(hs:P.underlying s=some .string)(a2:∀w,(isAgg s).run P w= .ok false w)
 (hL:P.underlying L=some (.struct #[g0,g1]))(a3:P.stoodInHeld L=false)(m0:g0.name≠ "_")(m1:g1.name≠ "_")(q0:g0.offset=0)(q1:g1.offset=1)(r0:g0.type=i)(r1:g1.type=i)(hi:P.underlying i=some (.int .i64))(A:∀w,(isAgg i).run P w= .ok false w)(a4:∀w,(isAgg L).run P w= .ok true w)(a5:∀w,(sizeOf L).run P w= .ok 2 w):
 IK P K (fun a:List UInt8×(Int×Int)=> .agg #[str a.1,i64 a.2.1,i64 a.2.2]):=by
 subst r0;have hf:P.fieldsOf K= #[f0,f1]:=by simp[fJ,Z]
 have p0:∀(x y z:Value) w,(part f0.type #[x,y,z] f0.offset).run P w= .ok x w:=fun x y z w=>a0E (by rw[t0];exact a2) (by rw[o0];rfl);have p1:∀(x y z:Value) w,(part f1.type #[x,y,z] f1.offset).run P w= .ok (.agg #[y,z]) w:=fun x y z w=>b8s (by rw[t1];exact a4) (by rw[t1];exact a5) (by rw[o1];rfl);refine fU Z (fun a b=>rfl) (fun a b w=>?_) (fun b a w=>?_) (fun a=>?_)
 ·have O:∀d w,(aT (d+1) f0.type (str a.1) (str b.1)).run P w= .ok (a.1 == b.1) w:=fun d w=>by rw[t0];exact a1W hs a.1 b.1 d w
  have G:∀d w,(aT (d+2) f1.type (.agg #[i64 a.2.1,i64 a.2.2]) (.agg #[i64 b.2.1,i64 b.2.2])).run P w= .ok ((a.2.1 == b.2.1) && (a.2.2 == b.2.2)) w:=fun d w=>by
   rw[t1];exact WG hL a3 m0 m1 q0 q1 A (r1▸A) (x0:=i64 a.2.1) (x1:=i64 a.2.2) (y0:=i64 b.2.1) (y1:=i64 b.2.2) w (fun d w=>run_equalIn_int w d _ .i64 .i64 a.2.1 b.2.1 hi) (fun d w=>run_equalIn_int w d _ .i64 .i64 a.2.2 b.2.2 (r1▸hi)) d
  have key:∀b0 b1:Bool,(∀d w,(aT (d+1) f0.type (str a.1) (str b.1)).run P w= .ok b0 w)→(∀d w,(aT (d+2) f1.type (.agg #[i64 a.2.1,i64 a.2.2]) (.agg #[i64 b.2.1,i64 b.2.2])).run P w= .ok b1 w)→(aT (9997+3) K (.agg #[str a.1,i64 a.2.1,i64 a.2.2]) (.agg #[str b.1,i64 b.2.1,i64 b.2.2])).run P w= .ok (b0 && b1) w:=fun b0 b1 O G=>by
   rw[run_equalIn_struct w (9997+2) K _ _ (by rw[hf];exact Z) hp,hf];simp only[Op.eqFields,n0,n1,ne_eq,not_false_eq_true,if_true,aJ,p0,p1,O,G,aQ];cases b0
   ·simp
   cases b1<;>simp[aJ,p1,G]
  exact key _ _ O G
 ·have O:∀d w,(aF b (d+1) f0.type (str a.1)).run P w= .ok () w:=fun d w=>by rw[t0];exact a4K hs _ d w
  have G:∀d w,(aF b (d+2) f1.type (.agg #[i64 a.2.1,i64 a.2.2])).run P w= .ok () w:=fun d w=>by
   rw[t1];exact a2m hL m0 m1 q0 q1 A (r1▸A) b w (fun d w=>a1R hi _ d w) (fun d w=>a1R (r1▸hi) _ d w) d
  have a0:=O 9998;have a1:=G 9997;show(aF b (9999+1) K (.agg #[str a.1,i64 a.2.1,i64 a.2.2])).run P w=_;generalize hc:aF b (9998+1)=ck at a0 a1;rw[aF];rw[show(9999:Nat)=9998+1 from rfl,hc];simp[aJ,run_underlying Z,n0,n1,p0,p1,a0,a1]
 show bG (9998+2) _ _=true;have h:=fun x n=>a1A x n;simp[bG,h]
end
end Go.Sx
namespace Go.Sx
open Go Go.Sort Go.Proofs
section
variable {α:Type} [Inhabited α] {enc:α→Value}
omit [Inhabited α] in
theorem a9h{l:List α}{sp}{k:Nat}{x}(h:l[k]?=some x):(l.map enc++sp)[k]?=some (enc x):=by
 obtain⟨A,hg⟩:=bK.1 h;rw[List.getElem?_append_left (by simpa using A),List.getElem?_map,h];rfl
theorem a7g{w b T}{l:List α}{sp}(h:w.heap[b]?=some (yY T (l.map enc++sp))):Holds enc w b 0 l.toArray:=fun j A=>by
 have G:j<l.length:=by simpa using A
 have h1:(l.map enc++sp)[j]?=some (enc l[j]):=a9h (bP G);have h2:l.toArray[j]! =l[j]:=by rw[getElem!_pos _ j A];simp
 refine⟨?_,?_⟩
 ·rw[h2];simp only[World.cell?,h,yY,Nat.zero_add];simpa using h1
 simp only[World.frozen?,h,yY];simp
theorem c2y{l l':List α}{sp}(A:l'.length=l.length):putCells enc 0 l'.toArray (l.map enc++sp).toArray=(l'.map enc++sp).toArray:=by
 apply Array.ext_getElem?
 intro k;simp only[putCells,Array.getElem?_mapIdx,List.getElem?_toArray,dM,Nat.zero_le,true_and,Nat.zero_add,Nat.sub_zero];rcases aU k l.length with h|h
 ·have h1:(l.map enc++sp)[k]?=some (enc l[k]):=a9h (bP h);have h2:(l'.map enc++sp)[k]?=some (enc (l'[k]'oM)):=a9h (bP oM);have h3:l'.toArray[k]! =l'[k]'oM:=by rw[getElem!_pos _ k (by simpa using(oM:k<l'.length))];simp
  rw[h1,h2,dA,zG oM,h3]
 rw[dG (by simpa using h),dG (by simp;omega),fV,fV,A];cases sp[k-l.length]? with
 |none=>rfl
 |some v=>rw[dA,zF oM]
theorem St.c6g{w I b T}{l l':List α}{sp} n os (hr:Ready I [(b,yY T (l.map enc++sp))] w)(hl:l'.length=l.length):
 St w [b] I I [(b,yY T (l'.map enc++sp))] (grow (putRow enc (bQ w n) b 0 l'.toArray) os):=by
 obtain⟨r1,r2,_,r4⟩:=hr;have hb:=r2 _ (aB.2 rfl);have O:∀{c:Nat} {o':Obj},w.heap[c]?=some o'→c<w.heap.size:=fun {c o'} h=>by
  rcases aU c w.heap.size with Z|Z
  ·exact Z
  simp[aS Z]at h
 have a2:(putRow enc (bQ w n) b 0 l'.toArray).heap.size=w.heap.size:=by simp[putRow,mapBlock,bQ]
 have A:∀c,c<w.heap.size→c≠b→(grow (putRow enc (bQ w n) b 0 l'.toArray) os).heap[c]?=w.heap[c]?:=fun c h a1=>by
  simp only[grow];rw[dH oM];simp only[putRow,mapBlock,bQ,eG,zF (fE a1)]
 have a0:(grow (putRow enc (bQ w n) b 0 l'.toArray) os).heap[b]?=some (yY T (l'.map enc++sp)):=by
  have a3:=O hb;simp only[grow];rw[dH oM];simp only[putRow,mapBlock,bQ,eG,if_true];rw[hb];simp only[dA,onCells,yY];rw[c2y hl]
 refine⟨rfl,rfl,rfl,?_,?_,?_,?_,sI,?_,?_,fun _ _=>rfl,dZ _,a2j⟩
 ·simp only[grow,Array.size_append];omega
 ·intro c h hd;exact A c h (by simpa using hd)
 ·intro c o h;have h1:=r1 c o h;refine(A c (O h1) ?_).trans h1;rintro rfl;have:=r4 _ (aB.2 rfl);rw[this]at h;cases h
 ·intro p G;rw[aB.1 G];exact a0
 ·intro p G;rw[aB.1 G];exact r4 (b,yY T (l.map enc++sp)) (aB.2 rfl)
 intro p G;rw[aB.1 G];exact .inl (.head _)
end
end Go.Sx
namespace Go.Sx
open Go
def a0Z:HL→Heap→Heap
 |[],I=>I
 |(b,o)::r,I=>hput b o (a0Z r I)
theorem a3A:∀{H:HL} {I:Heap},(H.map (·.1)).Nodup→∀p∈H,a0Z H I p.1=some p.2
 |[],_,_,p,hp=>by cases hp
 |(b,o)::r,I,hn,p,hp=>by
  rw[aX,fM]at hn;unfold a0Z hput;rcases aA.1 hp with e|e
  ·rw[e];simp
  have:p.1≠b:=fun g=>hn.1 (by rw[←g];exact aG (f:=(·.1)) e);rw[zF this];exact a3A hn.2 p e
theorem a0z:∀{H:HL} {I:Heap} {b:Nat},b ∉ H.map (·.1)→a0Z H I b=I b
 |[],_,_,_=>rfl
 |(c,o)::r,I,b,h=>by
  rw[aX,aA,not_or]at h;unfold a0Z hput;rw[zF h.1];exact a0z h.2
theorem c0N{H I}(hd:∀p∈H,I p.1=none):Le I (a0Z H I):=fun b o A=>by
 by_cases h:b∈H.map (·.1)
 ·obtain⟨p,G,rfl⟩:=aC.1 h;rw[hd p G]at A;cases A
 rw[a0z h];exact A
def hless (H:HL) (J:Heap):Heap:=fun b=>if b∈H.map (·.1)then none else J b
theorem a0A{H J b}(h:b ∉ H.map (·.1)):hless H J b=J b:=zF h
theorem yT.borrow{P f args I B}{Z:Ending→Heap→HL→Prop}(h:yT P f args (a0Z B I) [] Z):
 yT P f args I B (fun e I' H'=>∃J K,Z e J K∧H'=B++K∧I'=hless B J∧∀p∈B,J p.1=some p.2):=by
 refine⟨h.1,fun w hw=>?_⟩;obtain⟨r1,r2,r3,r4⟩:=hw;have hr:Ready (a0Z B I) [] w:=by
  unfold Ready;refine⟨fun b o G=>?_,(fun p A=>by cases A),List.Pairwise.nil,(fun p A=>by cases A)⟩
  by_cases O:b∈B.map (·.1)
  ·obtain⟨p,A,rfl⟩:=aC.1 O;rw[a3A r3 p A]at G;cases G;exact r2 p A
  rw[a0z O]at G;exact r1 b o G
 refine(h.2 w hr).mono ?_;rintro e w' ⟨J,K,hs,A⟩;have hJ:∀p∈B,J p.1=some p.2:=fun p A=>hs.le _ _ (a3A r3 p A);have a1:∀p∈B,p.1<w.heap.size:=fun p A=>by
  have:=r2 p A;rcases aU p.1 w.heap.size with g|g
  ·exact g
  rw[aS g]at this;cases this
 have a0:∀q∈K,q.1 ∉ B.map (·.1):=fun q hq O=>by
  obtain⟨p,A,he⟩:=aC.1 O;have:=hs.dis q hq;rw[←he,hJ p A]at this;cases this
 refine⟨hless B J,B++K,⟨hs.os,hs.tape,hs.output,hs.size,fun b G _=>hs.frm b G sI,fun b o G=>?_,fun p A=>?_,?_,fun p A=>?_,fun p A=>?_,fun b G=>?_,fun b o G=>?_,a2j⟩,J,K,A,rfl,rfl,hJ⟩
 ·unfold hless at G
  split at G
  ·cases G
  exact hs.sub b o G
 ·rcases aI.1 A with g|g
  ·exact hs.sub _ _ (hJ p g)
  exact hs.own p g
 ·rw[aZ,bC];refine⟨r3,hs.nodup,fun x hx y hy he=>?_⟩;obtain⟨q,hq,rfl⟩:=aC.1 hy;exact a0 q hq (he▸hx)
 ·unfold hless
  split
  ·rfl
  rename_i O
  rcases aI.1 A with g|g
  ·exact absurd (aG g) O
  exact hs.dis p g
 ·rcases aI.1 A with g|g
  ·exact .inl (aG g)
  rcases hs.new p g with k|k
  ·cases k
  exact .inr k
 ·unfold hless
  split
  ·rename_i O
   obtain⟨p,A,rfl⟩:=aC.1 O;exact(r4 p A).symm
  rename_i O
  rw[hs.ifr b G,a0z O]
 have O:b ∉ B.map (·.1):=fun O=>by
  obtain⟨p,A,rfl⟩:=aC.1 O;rw[r4 p A]at G;cases G
 rw[a0A O];exact hs.le b o (by rw[a0z O];exact G)
theorem yT.b9f{P f args I H}{A:Ending→Heap→HL→Prop}(O:Enters P f)(h:(H.map (·.1)).Nodup→(∀p∈H,I p.1=none)→yT P f args I H A):yT P f args I H A:=
 ⟨O,fun w G=>(h G.2.2.1 G.2.2.2).2 w G⟩
section
variable {cx:Cx} {Q:Qt} {e:Env} {I:Heap} {R:HL}
theorem a1v{X:Heap→HL→Prop}{base}(A:∀I b o R,base≤b→(∀h,Le I h→h b=some o→X h R)→X I ((b,o)::R)):∀(B:HL) (I:Heap),(∀p∈B,base≤p.1)→(∀h,Le I h→(∀p∈B,h p.1=some p.2)→X h R)→X I (B++R)
 |[],I,_,k=>k I (dZ _) fun p A=>by cases A
 |(b,o)::r,I,hb,k=>A I b o (r++R) (hb _ (.head _)) fun h O hI=>a1v A r h (fun p A=>hb p (.tail _ A)) fun I2 G Z=>k I2 (O.trans G) fun p A=>by
  rcases aA.1 A with g|g
  ·rw[g];exact G _ _ hI
  exact Z p g
theorem J.persists{h l} B (A:∀p∈B,cx.w0.heap.size≤p.1)(k:∀G,Le I G→(∀p∈B,G p.1=some p.2)→J cx Q h l e G R):J cx Q h l e I (B++R):=
 a1v (X:=fun I H=>J cx Q h l e I H) (fun _ _ _ _ A k=>J.persist A k) B I A k
end
def SN {α:Type} (T:TypeId) (f:α→List Value) (I:Heap) (l:List α) (v:Value):Prop:=
 ∃p c,v= .slice p l.length c∧l.length≤c∧(l≠[]→∃b sp,p=some ⟨b,0,none⟩∧I b=some (yY T (l.flatMap f++sp)))
theorem SN.mono{α:Type}{T:TypeId}{f:α→List Value}{I A:Heap}{l:List α}{v:Value}(h:SN T f I l v)(G:Le I A):SN T f A l v:=
 let ⟨p,c,h1,h2,h3⟩:=h;⟨p,c,h1,h2,fun hn=>let ⟨b,sp,O,Z⟩:=h3 hn;⟨b,sp,O,G _ _ Z⟩⟩
theorem SN.row{α:Type}{T:TypeId}{f:α→List Value}{I:Heap}{l:List α}{v:Value}(h:SN T f I l v):zY f I l v:=
 let ⟨p,c,h1,h2,h3⟩:=h;⟨p,c,h1,h2,fun hn=>let ⟨b,sp,A,G⟩:=h3 hn;⟨b,0,_,T,_,sp,A,G,rfl⟩⟩
theorem SN.nil{α:Type}{T f I}:SN T f I ([]:List α) (.slice none 0 0):=⟨none,0,rfl,dW _,fun h=>absurd rfl h⟩
section
variable {cx:Cx} {Q:Qt} {e:Env} {I:Heap} {R:HL} {T:TypeId} {α:Type} {l:List α} {f:α→List Value} {sz n base:Nat} {g:Gs}
theorem c2f{X:Heap→HL→Prop}(hf:∀x,(f x).length=sz)(A:0<sz)(hg:CU base sz n (l.flatMap f) g)(hn:n=l.length)(O:∀b o,base≤b→(∀h,Le I h→h b=some o→X h R)→X I ((b,o)::R))(k:∀h,Le I h→SN T f h l (gV n g)→X h R):X I (gH T (l.flatMap f) g++R):=by
 subst hn;cases g with
 |none=>
  obtain⟨h1,h2⟩:=hg;have:l=[]:=aW.1 h1;subst this;exact k I (dZ _) SN.nil
 |some q=>
  obtain⟨b,c,sp⟩:=q;obtain⟨h1,h2,h3⟩:=hg;have Z:l.length≤c:=by
   rw[DN hf]at h3;exact dI (oM:l.length*sz≤c*sz) A
  exact O b _ h1 fun h G hb=>k h G ⟨_,c,rfl,Z,fun _=>⟨b,sp,rfl,hb⟩⟩
theorem Cj.c7r{c}(hf:∀x,(f x).length=sz)(h:0<sz)(hg:CU cx.w0.heap.size sz n (l.flatMap f) g)(hn:n=l.length)(k:∀A,Le I A→SN T f A l (gV n g)→Cj cx Q c e A R):Cj cx Q c e I (gH T (l.flatMap f) g++R):=
 c2f (X:=fun I H=>Cj cx Q c e I H) hf h hg hn (fun _ _ G k=>Cj.persist G k) k
end
theorem St.c7s{w0 w D A I0 I H}(h:St w0 D I0 I H w)(hd:∀b,b∈D↔b∈A):St w0 A I0 I H w:=
 ⟨h.os,h.tape,h.output,h.size,fun b G hn=>h.frm b G (fun g=>hn ((hd b).1 g)),h.sub,h.own,h.nodup,h.dis,fun p O=>(h.new p O).imp (hd p.1).1 id,h.ifr,h.le,h.drw⟩
theorem yT.perm{P f args I H H1}{A:Ending→Heap→HL→Prop}(G:H1.Perm H)(h:yT P f args I H1 A):yT P f args I H A:=
 ⟨h.1,fun w O=>by
  obtain⟨Z,r2,r3,r4⟩:=O;have hr:Ready I H1 w:=⟨Z,fun p g=>r2 p (G.mem_iff.1 g),(G.map _).nodup_iff.2 r3,fun p g=>r4 p (G.mem_iff.1 g)⟩;refine(h.2 w hr).mono ?_;rintro e w' ⟨I',K,hk,hq⟩;exact⟨I',K,hk.c7s (fun b=>(G.map _).mem_iff),hq⟩⟩
theorem yT.leave{P f args I H}{O A:Ending→Heap→HL→Prop}(h:yT P f args I H O)(hp:∀e G H',Le I G→O e G H'→∃K S,(K++S).Perm H'∧A e G K):yT P f args I H A:=
 ⟨h.1,fun w hw=>(h.2 w hw).mono fun e w' ⟨G,H',hs,hq⟩=>by
  obtain⟨K,S,hk,Z⟩:=hp e G H' hs.le hq;exact⟨G,K,(hs.perm hk).sublist (List.sublist_append_left K S),Z⟩⟩
section
variable {cx:Cx} {Q:Qt} {o:Oper} {e:Env} {I:Heap} {H:HL} {C:Ct}
theorem FV{H1} R {d f fo xs ts a0 a1 vs}{G:Ending→Heap→HL→Prop}(hH:H=R++H1)
 (ho:o.op= .call ⟨.value fo,xs.toArray,ts⟩)(hd:o.dst=some d)(hn:fF d cx.n=true)(hf:ev e fo=some (.func (.func f) a0.toArray a1.toArray))(hx:evs e xs=some vs)
 (hs:yT cx.P f (a0++vs++a1) I H1 G)
 (k:∀v A h,Le I A→G (.returned v) A h→C ((d,v)::e) A (R++h))
 (kp:∀Z A h,Le I A→G (.panicked Z) A h→Ej cx Q (.panic Z) e A (R++h))
 (ko:∀A h,¬G .outgrown A h):GZ cx Q o e I H C:=by
 subst hH;refine GZ.perm (H':=H1++R) cO fun K hK=>?_
 exact yS (C:=fun e' A H'=>∃h,H'=h++R∧C e' A (R++h)) ho hd hn hf hx hs (fun v A h O hp=>⟨h,rfl,k v A h O hp⟩) (fun Z A h O hp=>Ej.perm cO (kp Z A h O hp)) ko K
  fun e' A H' ⟨h,hH,hC⟩ a w ha hs=>hK e' A (R++h) hC a w ha (by subst hH;exact hs.perm cO)
end
section
variable {cx:Cx} {Q:Qt} {o:Oper} {e:Env} {I:Heap} {H:HL} {C:Ct}
theorem b2o{α:Type}[BEq α]{kv:α→Value}{a}{T U:Nat}{m x:Operand}{K E}{A:Value}(Z:o.op= .call ⟨.builtin .delete,#[m,x],#[T,U]⟩)(hd:o.dst=none)(hm:ev e m=some (.map none))(hx:ev e x=some A)(G:A=kv a)(hT:cx.P.underlying T=some (.map K E))(hK:IK cx.P K kv)(kk:C e I H):GZ cx Q o e I H C:=by
 intro _ O w0 w h hs;unfold eF;subst G;have:(execOp w0.eval o).run cx.P w= .ok (.value (.tuple #[])) w:=by
  simp[execOp,Z,resolve,invoke,builtin,h.eval hm,h.eval hx,Builtin.delete_,run_underlying hT,hK.2.1]
 rw[this];simp only[bZ,hd];exact O _ _ _ kk _ _ h.XP hs
end
def a3Z (a:Option Addr) (c j sz:Nat):Option Addr:=if c=j then a else a.map (·.add (j*sz))
section
variable {cx:Cx} {o:Oper} {e:Env} {S:World→Prop}
theorem c0z{x y z}{T E n c sz j k:Nat}{a kl O A}(Z:o.op= .slice T x (some y) (some z) none)(hx:ev e x=some (.slice a n c))(hy:ev e y=some (.int kl (j:Int)))(hz:ev e z=some (.int O A))(hu:cx.P.underlying T=some (.slice E))(G:∀w,(sizeOf E).run cx.P w= .ok sz w)(hk:A=(k:Int))(hj:j≤k)(hc:k≤c):
 DK cx o e S (.slice (a3Z a c j sz) (k-j) (c-j)):=by
 intro w0 w h _;subst hk;have h1:(k:Int)≤c:=oM;have h2:(j:Int)≤k:=oM;unfold a3Z;simp[execOp,Z,h.eval hx,h.eval hy,h.eval hz,dJ,dX,run_underlying hu,bT,run_sliceBound,h1,h2,G]
theorem b0c{x y}{T E n c sz j:Nat}{a kl h}(Z:o.op= .slice T x (some y) none none)(hx:ev e x=some (.slice a n c))(hy:ev e y=some (.int kl h))(hu:cx.P.underlying T=some (.slice E))(A:∀w,(sizeOf E).run cx.P w= .ok sz w)(G:h=(j:Int))(hj:j≤n)(hc:n≤c):
 DK cx o e S (.slice (a3Z a c j sz) (n-j) (c-j)):=by
 intro w0 w O _;subst G;have h1:(j:Int)≤n:=oM;unfold a3Z;simp[execOp,Z,O.eval hx,O.eval hy,dJ,dX,run_underlying hu,bT,run_sliceBound,h1,A]
theorem LG{x z}{T E n c sz k:Nat}{a G h}(O:o.op= .slice T x none (some z) none)(Z:ev e x=some (.slice a n c))(hz:ev e z=some (.int G h))(hu:cx.P.underlying T=some (.slice E))(A:∀w,(sizeOf E).run cx.P w= .ok sz w)(hk:h=(k:Int))(hc:k≤c):
 DK cx o e S (.slice a k c):=by
 subst hk;exact a7k O Z hz hu A hc
end
theorem a9Q{α:Type}{f sz}(hf:∀x,(f x).length=sz):∀(l:List α) (j:Nat) (sp:List Value),j≤l.length→(l.flatMap f++sp).drop (j*sz)=(l.drop j).flatMap f++sp
 |l,0,sp,_=>sI
 |[],j+1,sp,h=>by simp at h
 |a::r,j+1,sp,h=>by
  rw[List.flatMap_cons,bF,show(j+1)*sz=(f a).length+j*sz by rw[hf,Nat.add_mul];omega,←gJ,List.drop_left,List.drop_succ_cons];exact a9Q hf r j sp (by simpa using h)
theorem zY.cut{α:Type}{f:α→List Value}{sz:Nat}(hf:∀x,(f x).length=sz){I l a n c}(h:zY f I l (.slice a n c)){j k:Nat}(hj:j≤k)(hk:k≤l.length):zY f I ((l.drop j).take (k-j)) (.slice (a3Z a c j sz) (k-j) (c-j)):=by
 obtain⟨_,_,A,_,G⟩:=h;cases A;refine⟨_,c-j,by rw[fK,bV];congr 1;omega,by rw[fK,bV];omega,fun hn=>?_⟩;have Z:j<k:=by
  rcases aU j k with g|g
  ·exact g
  exact absurd (by rw[show k-j=0 by omega,List.take_zero]) hn
 have O:l≠[]:=fun e=>hn (by rw[e];simp);obtain⟨b,o,cs,t,fr,sp,h1,h2,h3⟩:=G O;subst h1;refine⟨b,o+j*sz,cs,t,fr,((l.drop j).drop (k-j)).flatMap f++sp,?_,h2,?_⟩
 ·unfold a3Z;rw[zF oM,dA,Addr.add_lit]
 rw[←gJ,h3,a9Q hf l j sp oM,←bF,←List.flatMap_append,eH]
section
variable {cx:Cx} {Q:Qt} {o:Oper} {e:Env} {I:Heap} {H:HL} {C:Ct} {S:World→Prop}
theorem c2h{x T E b off n c sz t cs z} i (ho:o.op= .call ⟨.builtin .clear,#[x],#[T]⟩)(hd:o.dst=none)(hx:ev e x=some (.slice (some ⟨b,off,none⟩) n c))(hn:0<n)(hu:cx.P.underlying T=some (.slice E))(hz:∀w,(zeroValue E).run cx.P w= .ok z w)
 (Z:z.cells.size=sz)(a4:0<sz)(a0:z.cells.toList.all gB=true)(A:H[i]?=some (b,yY t cs))(a3:off+n*sz≤cs.length)(k:∀vs H',vs.length=n*sz→AV H i (b,yY t (cs.take off++vs++cs.drop (off+n*sz))) H'→C e I H'):GZ cx Q o e I H C:=by
 intro K hK a w ha hs;unfold eF;have hb:=hs.own _ (cZ A);have h:(aH z.cells n).toList.length=n*sz:=by simp[aH,Z]
 have G:∀v∈(aH z.cells n).toList,v.oneCell'=true:=fun v hv=>by
  simp only[aH,Array.toList_map,aC]at hv;obtain⟨j,_,rfl⟩:=hv;have a1:j % z.cells.size<z.cells.size:=Nat.mod_lt _ oM;rw[getElem!_pos z.cells _ a1];exact List.all_eq_true.1 a0 _ sI
 have O:zM cs (off+0) (aH z.cells n).toList (cs.take off++(aH z.cells n).toList++cs.drop (off+n*sz)):=⟨by rw[h];omega,by rw[h,Nat.add_zero]⟩;have a2:=OA (P:=cx.P) (t:=t) (aH z.cells n).toList 0 w cs hb (.inl rfl) (by rw[h];omega) G _ O;obtain⟨n,rfl⟩:∃m,n=m+1:=⟨n-1,oM⟩;have:(execOp a.eval o).run cx.P w= .ok (.value (.tuple #[])) (World.block w b (yY t (cs.take off++(aH z.cells (n+1)).toList++cs.drop (off+(n+1)*sz)))):=by
  simp only[execOp,ho,resolve,invoke,builtin,Builtin.clear_,aJ,fC,aQ];simp[ha.eval hx,run_underlying hu,hz,a2,yY,bF]
 rw[this];simp only[bZ,hd];have hset:AV H i (b,yY t (cs.take off++(aH z.cells (n+1)).toList++cs.drop (off+(n+1)*sz))) (H.set i (b,yY t (cs.take off++(aH z.cells (n+1)).toList++cs.drop (off+(n+1)*sz)))):=⟨(bK.1 A).1,rfl⟩;exact hK _ _ _ (k _ _ h hset) _ _ ha.XP (hs.block A hset)
theorem b0j{x y z}{T E n c sz k m:Nat}{a kl kh}(G:o.op= .slice T x none (some y) (some z))(O:ev e x=some (.slice a n c))(Z:ev e y=some (.int kl (k:Int)))(hz:ev e z=some (.int kh (m:Int)))(hu:cx.P.underlying T=some (.slice E))(A:∀w,(sizeOf E).run cx.P w= .ok sz w)(a0:k≤m)(a1:m≤c):
 DK cx o e S (.slice a k m):=by
 intro w0 w h _;have h1:(k:Int)≤m:=oM;have h2:(m:Int)≤c:=oM;cases a with
 |none=>simp[execOp,G,h.eval O,h.eval Z,h.eval hz,dJ,dX,run_underlying hu,bT,run_sliceBound,h1,h2,A]
 |some q=>simp[execOp,G,h.eval O,h.eval Z,h.eval hz,dJ,dX,run_underlying hu,bT,run_sliceBound,h1,h2,A,Addr.add]
end
def SX {α:Type} (T:TypeId) (f:α→List Value) (l:List α) (v:Value) (H:HL):Prop:=(l=[]∧v= .slice none 0 0∧H=[])∨∃b c sp,v= .slice (some ⟨b,0,none⟩) l.length c∧l.length≤c∧H=[(b,yY T (l.flatMap f++sp))]
theorem SX.c3a{α:Type}{T}{f:α→List Value}{sz base n:Nat}{l:List α}{g}(hf:∀x,(f x).length=sz)(h:0<sz)(hn:n=l.length)(hg:CU base sz n (l.flatMap f) g):SX T f l (gV n g) (gH T (l.flatMap f) g):=by
 subst hn;cases g with
 |none=>
  obtain⟨h1,h2⟩:=hg;exact .inl ⟨aW.1 h1,by rw[h1];rfl,rfl⟩
 |some q=>
  obtain⟨b,c,sp⟩:=q;obtain⟨h1,h2,h3⟩:=hg;have A:l.length≤c:=by
   rw[DN hf]at h3;exact dI (oM:l.length*sz≤c*sz) h
  exact .inr ⟨b,c,sp,rfl,A,rfl⟩
section
variable {cx:Cx} {Q:Qt} {e:Env} {I:Heap} {R H1:HL} {T:TypeId} {α:Type} {l:List α} {f:α→List Value} {v:Value}
theorem b0e{X:Heap→HL→Prop}{base}(h:SX T f l v H1)(O:∀p∈H1,base≤p.1)(Z:∀b o,base≤b→(∀A,Le I A→A b=some o→X A R)→X I ((b,o)::R))(k:∀A,Le I A→SN T f A l v→X A R):X I (H1++R):=by
 rcases h with⟨rfl,rfl,rfl⟩|⟨b,c,sp,rfl,hc,rfl⟩
 ·exact k I (dZ _) SN.nil
 exact Z b _ (O _ (.head _)) fun A G hI=>k A G ⟨_,c,rfl,hc,fun _=>⟨b,sp,rfl,hI⟩⟩
theorem J.a5B{A r}(h:SX T f l v H1)(G:∀p∈H1,cx.w0.heap.size≤p.1)(k:∀O,Le I O→SN T f O l v→J cx Q A r e O R):J cx Q A r e I (H1++R):=b0e (X:=fun I H=>J cx Q A r e I H) h G (fun _ _ G k=>J.persist G k) k
end
end Go.Sx
namespace Go.Sx
open Go Go.RowKit
theorem yT.c6r{P f args I T sz n vals}(he:Enters P f)
 (h:∀w,(∀b o,I b=some o→w.heap[b]?=some o)→Calls P f args.toArray w fun e w'=>∃v',e= .returned v'∧w'.ownsRow w.heap.size T sz v' n vals∧v'≠ .slice none 0 0∧Below w.heap.size w w'):
 yT P f args I [] (fun e _ H'=>∃g,CU 0 sz n vals g∧e= .returned (gV n g)∧H'=gH T vals g):=by
 refine⟨he,fun w hw=>(h w hw.1).mono ?_⟩;rintro e w' ⟨v',rfl,O,a4,Z⟩;obtain⟨r1,-,-,-⟩:=hw;have a2:∀{b:Nat} {o:Obj},I b=some o→b<w.heap.size:=fun {b o} hb=>by
  have:=r1 b o hb;rcases aU b w.heap.size with h'|h'
  ·exact h'
  rw[aS h']at this;cases this
 obtain⟨a0,O⟩:=O;obtain⟨A,a1,G,rfl,hA,hc,hn,-,a5,a6⟩:=O.resolve_left fun g=>a4 g.1;have a3:(.cells G T (0,0):Obj)=yY T (vals++G.toList.drop (n*sz)):=by
  unfold yY;rw[←a6,eH]
 rw[a3]at hc;have a7:St w [] I I [(A,yY T (vals++G.toList.drop (n*sz)))] w':=
  ⟨Z.os,Z.tape,Z.output,Z.size,fun b hb _=>Z.block b hb,fun b o hb=>by rw[Z.block b (a2 hb)];exact r1 b o hb,fun p hp=>by rw[aB.1 hp];exact hc,sI,fun p hp=>by
   rw[aB.1 hp];cases hI:I A with
   |none=>rfl
   |some o=>have:=a2 hI;omega,fun p hp=>by rw[aB.1 hp];exact .inr hA,fun _ _=>rfl,dZ _,a2j⟩
 refine⟨_,_,a7,some (A,a1,G.toList.drop (n*sz)),⟨Nat.zero_le _,a0,?_⟩,rfl,rfl⟩;have a8:n*sz≤a1*sz:=Nat.mul_le_mul_right _ hn;have h1:G.toList.length=a1*sz:=by rw[←a5];exact Array.length_toList
 rw[bV,h1,a0];omega
end Go.Sx
namespace Go.Proofs.YtojdemmgkdokmaaGreatDoor
open Go Go.Sx
def ZA (I:Heap) (l:List (List UInt8)) (v:Value):Prop:=∃p c,v= .slice p l.length c∧l.length≤c∧(l≠[]→∃b o cs t fr sp,p=some ⟨b,o,none⟩∧I b=some (.cells (List.toArray cs) t fr)∧cs.drop o=l.map str++sp)
theorem a6Q{cs sp:List Value}{o}{l:List (List UInt8)}(h:cs.drop o=l.map str++sp){k x}(A:l[k]?=some x):cs[o+k]?=some (str x):=by
 rw[←List.getElem?_drop,h];exact JO A
theorem ZA.of{I l v}(h:JX 9 I l v):ZA I l v:=by
 rcases h with⟨rfl,rfl⟩|⟨b,c,sp,rfl,A,G⟩
 ·exact⟨none,0,rfl,dW _,fun h=>absurd rfl h⟩
 exact⟨_,c,rfl,A,fun _=>⟨b,0,_,_,_,sp,rfl,G,rfl⟩⟩
end Go.Proofs.YtojdemmgkdokmaaGreatDoor
namespace Ke
open Go.Lib (decodeL decodeN)
def opens (t:Bs):Prop:=t=[]∨∃b r,t=b::r∧b.toNat / 64≠2
theorem ZF{b r}(h:b.toNat / 64≠2):opens (b::r):= .inr ⟨b,r,rfl,h⟩
theorem b0t:opens []:= .inl rfl
theorem b0g{s t}(h:opens s)(hs:s≠[]):opens (s++t):=by
 rcases h with h|⟨b,r,rfl,h⟩
 ·exact absurd h hs
 exact .inr ⟨b,r++t,rfl,h⟩
theorem b6I{s t}(h:opens s)(A:opens t):opens (s++t):=by
 cases s with
 |nil=>exact A
 |cons a r=>exact b0g h sI
theorem a5H l t (A:l≠[])(G:opens t):decodeL (l++t)=decodeL l:=by
 rw[dQ,dQ];rcases G with rfl|⟨b,r,rfl,h⟩
 ·rw[fO]
 rcases l with _|⟨O,_|⟨Z,_|⟨a2,_|⟨a3,l⟩⟩⟩⟩
 ·exact absurd rfl A
 all_goals
  simp only[List.cons_append,List.nil_append,aV,dB,fA,bI,bJ,dK];unfold decodeN
  first
   | (have e1:(0+1<0+1)=False:=sI
      simp[h,gU])
   |(simp[h,gU];done)
   |skip
theorem a5U:∀(n:Nat) (s t:Bs),s.length≤n→opens t→runes (s++t)=runes s++runes t
 |_,[],t,_,_=>by simp[b9o]
 |0,a::r,t,h,_=>by simp at h
 |n+1,a::r,t,h,ht=>by
  have A:a::r≠[]:=sI;have O:=Go.Lib.decodeL_width (a::r);have G:=Go.Lib.decodeL_le (a::r) A;rw[YM (s:=(a::r)++t) sI,YM A,a5H _ _ A ht,List.drop_append_of_le_length G,a5U n _ t (by simp only[bV];simp only[aV]at h;simp only[aV];omega) ht];rfl
theorem a9Y s t (h:opens t):runes (s++t)=runes s++runes t:=a5U _ s t (dW _) h
theorem b3L{c} r (h:c.toNat<128):runes (c::r)=c.toNat::runes r:=by
 rw[YM sI,Go.Lib.decodeL_ascii c r h];rfl
theorem toByte{n}(h:n<256):(bH n).toNat=n:=by simp;omega
theorem enc1{c}(h:c<128):enc c=[bH c]:=by
 unfold enc;rw[zG h]
theorem enc2{c}(h1:128≤c)(h:c<2048):enc c=[bH (192+c / 64),bH (128+c % 64)]:=by
 unfold enc;rw[zF oM,zG h]
theorem enc3{c}(h1:2048≤c)(h:okc c):enc c=[bH (224+c / 4096),bH (128+c / 64 % 64),bH (128+c % 64)]:=by
 unfold okc at h;unfold enc;rw[zF oM,zF oM,zG oM]
theorem a1X{c}(h:okc c):opens (enc c)∧enc c≠[]:=by
 by_cases h1:c<128
 ·rw[enc1 h1];exact⟨ZF (by rw[toByte oM];omega),sI⟩
 by_cases h2:c<2048
 ·rw[enc2 oM h2];exact⟨ZF (by rw[toByte oM];omega),sI⟩
 rw[enc3 oM h];unfold okc at h;exact⟨ZF (by rw[toByte oM];omega),sI⟩
theorem a6g{c}(h:okc c):decodeL (enc c)=(c,(enc c).length):=by
 rw[dQ]
 by_cases h1:c<128
 ·rw[enc1 h1];simp only[aV,dB,bI,bJ,dK];rw[toByte oM];unfold decodeN;rw[zG h1]
 by_cases h2:c<2048
 ·rw[enc2 oM h2];simp only[aV,dB,bI,bJ,dK];rw[toByte oM,toByte oM];unfold decodeN;rw[zF oM,zG ⟨oM,oM,oM⟩,zG oM];refine Prod.ext ?_ rfl;show _=c;simp only;omega
 rw[enc3 oM h];unfold okc at h;simp only[aV,dB,bI,bJ,dK];rw[toByte oM,toByte oM,toByte oM];unfold decodeN;rw[zF oM,zF oM,zG ⟨oM,⟨oM,oM⟩,oM,oM⟩,zG ⟨oM,oM⟩];refine Prod.ext ?_ rfl;show _=c;simp only;omega
theorem a9y{c}(h:okc c):runes (enc c)=[c]:=by
 rw[YM (a1X h).2,a6g h,List.drop_eq_nil_of_le (dW _)];rfl
def encs (l:List Nat):Bs:=l.flatMap enc
theorem a7I:∀(l:List Nat),(∀c∈l,okc c)→opens (encs l)
 |[],_=>b0t
 |c::_r,h=>b0g (a1X (h c (.head _))).1 (a1X (h c (.head _))).2
theorem a7E:∀(l:List Nat),(∀c∈l,okc c)→runes (encs l)=l
 |[],_=>rfl
 |c::r,h=>by
  show runes (enc c++encs r)=_;rw[a9Y _ _ (a7I r fun d hd=>h d (.tail _ hd)),a9y (h c (.head _)),a7E r fun d hd=>h d (.tail _ hd)];rfl
end Ke
namespace Ke
end Ke
namespace Go.Proofs.YtojdemmgkdokmaaGreatDoor
open Go Go.Sx
theorem mod_eq(n:Int){m:Int}(h:0<m):(n.tmod m+m).tmod m=n % m:=by
 have h1:=Int.tmod_lt_of_pos n h;have h2: -m<n.tmod m:=by
  have:=Int.lt_tmod_of_pos n h;omega
 rw[Int.tmod_eq_emod_of_nonneg oM,Int.add_emod_right,Int.tmod_def,Int.sub_mul_emod_self_left]
end Go.Proofs.YtojdemmgkdokmaaGreatDoor
namespace Ke
def isb (s:Sub):Option Bs:=if (a0g s.text).2=true∧s.code=97 then some (a0g s.text).1 else none
end Ke
namespace Ix
open Ke
def PU (w:Bs):Bs→List Bs
 |[]=>if w=[]then[]else[w]
 |c::r=>if digit c then PU (w++[c]) r else if w=[]then PU [] r else w::PU [] r
def b0Y (s:Bs):List Bs:=PU [] s
def b9d (s:Bs):Option Bs:=(b0Y s).find? fun x=>decide (x.length=4)
structure V where
  name:Bs
  text:Bs
  skip:Nat
def V.key (v:V):Bs:=KC v.text v.skip
def V.ws (v:V):Row:=words v.text
def a5i:Bs:=[116,105,116,108,101]
def b4X:Bs:=[97,117,116,104,111,114]
def a7a:Bs:=[115,117,98,106,101,99,116]
def a8s:Bs:=[105,115,98,110]
def c3I:Bs:=[121,101,97,114]
def c6B:Bs:=[97,110,121]
def b4J (f:JC):Bs:=join (f.subs.map (·.text))
def yr (s:Sub):Option Bs:=if s.code=99 then b9d s.text else none
def named (f:JC):Bs×Row:=
 if f.tag=[50,52,53]∨f.tag=[50,52,54]then(a5i,[textOf f [97,98]])
 else if f.tag=[49,48,48]∨f.tag=[49,49,48]∨f.tag=[55,48,48]then(b4X,[textOf f [97]])
 else if f.tag=[54,48,48]∨f.tag=[54,53,48]then(a7a,[textOf f [97,120]])
 else if f.tag=[48,50,48]then(a8s,f.subs.filterMap isb)
 else if f.tag=[50,54,48]then(c3I,f.subs.filterMap yr)
 else([],[])
def c3C (f:JC):Nat:=if f.tag=[50,52,53]then skip f else 0
def c3H (f:JC):Bool:= !([48,48]:Bs).isPrefixOf f.tag && !([57]:Bs).isPrefixOf f.tag
def b1f (f:JC):List V:=(named f).2.map (fun s=>⟨(named f).1,s,c3C f⟩)++if c3H f then[⟨c6B,b4J f,0⟩]else[]
def vals (fs:List JC):List V:=fs.flatMap b1f
abbrev Ix:=Ls (List V)
def within (w:Row):Row→Bool
 |[]=>w.isEmpty
 |x::r=>w.isPrefixOf (x::r) || within w r
def a3F (n:Bs) (w:Row) (vs:List V):Bool:=vs.any fun v=>decide (v.name=n) && within w v.ws
def hasK (n k:Bs) (vs:List V):Bool:=vs.any fun v=>decide (v.name=n) && decide (v.key=k)
def phrase (L:Ix) (n:Bs) (w:Row):List Rec:=if w=[]then[]else(L.filter fun e=>a3F n w e.2).map (·.1)
def word (L:Ix) (n s:Bs):List Rec:=if (words s).length=1 then phrase L n (words s)else[]
def LY (L:Ix) (n k:Bs):List Rec:=if k=[]then[]else(L.filter fun e=>hasK n k e.2).map (·.1)
def keyOf (n s:Bs):Bs:=if (a0g s).2=true∧n=a8s then KC (a0g s).1 0 else KC s 0
def keysOf (n:Bs) (vs:List V):Row:=((vs.filter fun v=>decide (v.name=n)).map V.key).filter fun k=>decide (k≠[])
def IZ (L:Ix) (n begin:Bs):Row:=((L.flatMap fun e=>keysOf n e.2).filter fun k=>decide (¬k<begin)).foldl put []
def scan (L:Ix) (n s:Bs) (most:Int):List (Bs×Nat):=((IZ L n (keyOf n s)).take most.toNat).map fun k=>(k,(LY L n k).length)
def WJ (L:Ix) (t:Rec):Bs:=match OT L t with
 |none=>[]
 | some vs=>match vs.find? fun v=>decide (v.name=a5i)with
   |none=>[]
   |some v=>v.key
theorem within_iff{w}:∀{l:Row},within w l=true↔w <:+: l
 |[]=>by
  unfold within;rw[List.infix_nil];cases w<;>simp
 |x::r=>by
  unfold within;rw[dS,within_iff,List.infix_cons_iff,List.isPrefixOf_iff_prefix]
theorem a3R{x l}:within [x] l=true↔x∈l:=by
 rw[within_iff];constructor
 ·rintro⟨s,t,rfl⟩;simp
 intro h;obtain⟨s,t,rfl⟩:=fD h;exact⟨s,t,sI⟩
theorem b7j{x w l}(h:within (x::w) l=true):x∈l:=by
 rw[within_iff]at h;exact h.subset (.head _)
end Ix
namespace Ix
open Ke
abbrev Pl:=Bs×Bs
def plW (vs:List V):List Pl:=vs.flatMap fun v=>v.ws.map fun w=>(v.name,w)
def plK (vs:List V):List Pl:=vs.flatMap fun v=>if v.key=[]then[]else[(v.name,v.key)]
def cnt (pl:List V→List Pl) (L:Ix) (p:Pl) (t:Rec):Nat:=match OT L t with
 |none=>0
 |some vs=>(pl vs).count p
def way (f:Pl→Rec→Nat) (t:Rec) (n:Pl→Nat) (p:Pl) (u:Rec):Nat:=if u=t then n p else f p u
theorem a5c{L:Ix}(h:MN L)(t u:Rec)(v:List V):OT (RG t v L) u=if u=t then some v else OT L u:=by
 by_cases hu:u=t
 ·rw[zG hu,KZ (a0c t v h),UQ t v h,hu];exact .inl rfl
 rw[zF hu];cases hg:OT L u with
 |none=>
  rw[a4W]at hg ⊢;intro e A;rcases(UQ t v h e).1 A with g|g
  ·rw[g];exact fE hu
  exact hg e g.1
 |some x=>
  rw[KZ h]at hg;rw[KZ (a0c t v h),UQ t v h];exact .inr ⟨hg,hu⟩
theorem a2V{L:Ix}(h:MN L) t u:OT (a2f t L) u=if u=t then none else OT L u:=by
 by_cases hu:u=t
 ·rw[zG hu,a4W];intro e A;rw[hu];exact((a0w t L e).1 A).2
 rw[zF hu];cases hg:OT L u with
 |none=>
  rw[a4W]at hg ⊢;exact fun e A=>hg e ((a0w t L e).1 A).1
 |some x=>
  rw[KZ h]at hg;rw[KZ (a1I t h),a0w];exact⟨hg,hu⟩
theorem b1j{pl L}(h:MN L) t v:cnt pl (RG t v L)=way (cnt pl L) t fun p=>(pl v).count p:=by
 funext p u
 unfold cnt way;rw[a5c h]
 by_cases hu:u=t
 ·rw[zG hu,zG hu]
 rw[zF hu,zF hu]
theorem a5e{pl L}(h:MN L) t:cnt pl (a2f t L)=way (cnt pl L) t fun _=>0:=by
 funext p u
 unfold cnt way;rw[a2V h]
 by_cases hu:u=t
 ·rw[zG hu,zG hu]
 rw[zF hu,zF hu]
theorem c1s{pl L t vs}(h:OT L t=some vs):cnt pl L=way (cnt pl L) t fun p=>(pl vs).count p:=by
 funext p u
 unfold way
 split
 ·rename_i A;unfold cnt;rw[A,h]
 rfl
theorem c1m{pl L t}(h:OT L t=none):cnt pl L=way (cnt pl L) t fun _=>0:=by
 funext p u
 unfold way
 split
 ·rename_i A;unfold cnt;rw[A,h]
 rfl
theorem b7q{L:Ix}(h:MN L)(t:Rec)(v:List V):RG t v (a2f t L)=RG t v L:=by
 refine b8l (a0c t v (a1I t h)) (a0c t v h) fun e=>?_;rw[UQ t v (a1I t h),UQ t v h,a0w];constructor
 ·rintro(g|g)
  ·exact .inl g
  exact .inr ⟨g.1.1,g.2⟩
 rintro(g|g)
 ·exact .inl g
 exact .inr ⟨g,g.2⟩
theorem a7Y{pl L}(h:MN L){p ts}(h1:ts.Pairwise fun a b=>IW a b=true)(h2:∀t,t∈ts↔cnt pl L p t≠0):ts=(L.filter fun e=>decide (p∈pl e.2)).map (·.1):=by
 have key:ts.map (fun t=>(t,()))=((L.filter fun e=>decide (p∈pl e.2)).map fun e=>(e.1,())):=by
  refine b8l (β:=Unit) ?_ ?_ fun e=>?_
  ·unfold MN;rw[bD];exact h1
  ·unfold MN;rw[bD];exact List.Pairwise.filter _ h
  rw[aC,aC];constructor
  ·rintro⟨t,A,rfl⟩;have h3:=(h2 t).1 A;unfold cnt at h3;cases hg:OT L t with
   |none=>rw[hg]at h3;exact absurd rfl h3
   |some vs=>
    rw[hg]at h3;have G:p∈pl vs:=aO.1 (aK.2 h3);exact⟨(t,vs),aP.2 ⟨(KZ h).1 hg,zI G⟩,rfl⟩
  rintro⟨⟨t,vs⟩,A,rfl⟩;rw[aP]at A;refine⟨t,(h2 t).2 ?_,rfl⟩;unfold cnt;rw[(KZ h).2 A.1];exact aK.1 (aO.2 (zB A.2))
 have:=zD (List.map (·.1)) key;simpa[gZ,Function.comp_def]using this
theorem c4T{vs n w}:(n,w)∈plW vs↔a3F n [w] vs=true:=by
 unfold plW a3F;rw[dR,bW];constructor
 ·rintro⟨v,A,h⟩;obtain⟨x,G,O⟩:=aC.1 h;cases O;exact⟨v,A,by simp[a3R,G]⟩
 rintro⟨v,A,h⟩;rw[aN,zH,a3R]at h;exact⟨v,A,aC.2 ⟨w,h.2,by rw[h.1]⟩⟩
theorem ZN{vs n k}:(n,k)∈plK vs↔k≠[]∧hasK n k vs=true:=by
 unfold plK hasK;rw[dR,bW];constructor
 ·rintro⟨v,G,h⟩
  split at h
  ·cases h
  rename_i A
  rw[aB]at h;cases h;exact⟨A,v,G,sI⟩
 rintro⟨A,v,G,h⟩;rw[aN,zH,zH]at h;refine⟨v,G,?_⟩;rw[zF (by rw[h.2];exact A),h.1,h.2];exact aB.2 rfl
theorem b4z{L}(h:MN L){n w ts}(h1:ts.Pairwise fun a b=>IW a b=true)(h2:∀t,t∈ts↔cnt plW L (n,w) t≠0):ts=phrase L n [w]:=by
 rw[a7Y h h1 h2];unfold phrase;rw[zF sI]
 congr 2
 funext e
 rw[fZ,zH,c4T]
theorem b5Q{L}(h:MN L){n k ts}(h1:ts.Pairwise fun a b=>IW a b=true)(h2:∀t,t∈ts↔cnt plK L (n,k) t≠0):ts=LY L n k:=by
 rw[a7Y h h1 h2];unfold LY
 by_cases hk:k=[]
 ·rw[zG hk];have:(L.filter fun e=>decide ((n,k)∈plK e.2))=[]:=by
   rw[List.filter_eq_nil_iff];intro e _;rw[zH,ZN];exact fun g=>g.1 hk
  rw[this];rfl
 rw[zF hk]
 congr 2
 funext e
 rw[fZ,zH,ZN];exact⟨fun g=>g.2,fun g=>⟨hk,g⟩⟩
theorem b8i{L} n x w p (hs:MN L)(h:∀t vs,OT L t=some vs→p t=a3F n (x::w) vs):(phrase L n [x]).filter p=phrase L n (x::w):=by
 unfold phrase;rw[zF sI,zF sI,List.filter_map,List.filter_filter]
 congr 1
 refine List.filter_congr fun e A=>?_;have h1:OT L e.1=some e.2:=(KZ hs).2 A;show(p e.1 && a3F n [x] e.2)=a3F n (x::w) e.2;rw[h _ _ h1];cases h2:a3F n (x::w) e.2 with
 |false=>rfl
 |true=>
  rw[gQ];unfold a3F at h2 ⊢;rw[bW]at h2 ⊢;obtain⟨v,G,h3⟩:=h2;rw[aN]at h3;exact⟨v,G,by rw[aN];exact⟨h3.1,a3R.2 (b7j h3.2)⟩⟩
end Ix
namespace Ix
open Ke
theorem a7B{n k vs}:k∈keysOf n vs↔(n,k)∈plK vs:=by
 rw[ZN];unfold keysOf hasK;rw[aP,aC,zH,bW];constructor
 ·rintro⟨⟨v,A,rfl⟩,G⟩;rw[aP,zH]at A;exact⟨G,v,A.1,by simp[A.2]⟩
 rintro⟨G,v,A,h⟩;rw[aN,zH,zH]at h;exact⟨⟨v,aP.2 ⟨A,zI h.1⟩,h.2⟩,G⟩
theorem a2Q{pl L}(h:MN L){p}:(∃t,cnt pl L p t≠0)↔∃e∈L,p∈pl e.2:=by
 constructor
 ·rintro⟨t,A⟩;unfold cnt at A;cases hg:OT L t with
  |none=>rw[hg]at A;exact absurd rfl A
  |some vs=>
   rw[hg]at A;exact⟨(t,vs),(KZ h).1 hg,aO.1 (aK.2 A)⟩
 rintro⟨⟨t,vs⟩,G,O⟩;refine⟨t,?_⟩;unfold cnt;rw[(KZ h).2 G];exact aK.1 (aO.2 O)
theorem a0s L n b:Inc (IZ L n b):=a6y _ List.Pairwise.nil
theorem WB{L}(h:MN L){n b k}:k∈IZ L n b↔¬k<b∧∃t,cnt plK L (n,k) t≠0:=by
 unfold IZ;rw[a6T,a2Q h,aP,dR,zH];constructor
 ·rintro(⟨⟨e,A,G⟩,O⟩|g)
  ·exact⟨O,e,A,a7B.1 G⟩
  cases g
 rintro⟨O,e,A,G⟩;exact .inl ⟨⟨e,A,a7B.2 G⟩,O⟩
theorem WW{L:Ix}(h:MN L){n b:Bs}{ls:List (Bs×Nat)}(h1:Inc (ls.map (·.1)))(h2:∀k,k∈ls.map (·.1)↔¬k<b∧∃t,cnt plK L (n,k) t≠0)(h3:∀x∈ls,x.2=(LY L n x.1).length):ls=(IZ L n b).map fun k=>(k,(LY L n k).length):=by
 have A:ls.map (·.1)=IZ L n b:=a7p h1 (a0s L n b) fun k=>by rw[h2,WB h]
 rw[←A,gZ]
 conv=>lhs;rw[←List.map_id ls]
 refine List.map_congr_left fun x G=>?_;show x=(x.1,(LY L n x.1).length);rw[←h3 x G]
theorem a9F L n s most:((IZ L n (keyOf n s)).map fun k=>(k,(LY L n k).length)).take most.toNat=scan L n s most:=by
 unfold scan;rw[←List.map_take]
theorem c2u{L}(h:MN L){n k}{ts:List Rec}(hn:ts.Nodup)(h2:∀t,t∈ts↔cnt plK L (n,k) t≠0):ts.length=(LY L n k).length:=by
 have G:(LY L n k).Nodup:=by
  unfold LY
  split
  ·exact .nil
  exact(b9Q h).sublist (List.filter_sublist.map _)
 refine List.Perm.length_eq ((List.perm_ext_iff_of_nodup hn G).2 fun t=>?_);rw[h2];unfold LY
 by_cases hk:k=[]
 ·rw[zG hk];refine⟨fun g=>?_,fun g=>by cases g⟩;obtain⟨e,_,O⟩:=(a2Q h).1 ⟨t,g⟩;exact absurd hk (ZN.1 O).1
 rw[zF hk,aC];constructor
 ·intro g;unfold cnt at g;cases hg:OT L t with
  |none=>rw[hg]at g;exact absurd rfl g
  |some vs=>
   rw[hg]at g;have:=ZN.1 (aO.1 (aK.2 g));exact⟨(t,vs),aP.2 ⟨(KZ h).1 hg,this.2⟩,rfl⟩
 rintro⟨⟨u,vs⟩,A,rfl⟩;rw[aP]at A;unfold cnt;rw[(KZ h).2 A.1];exact aK.1 (aO.2 (ZN.2 ⟨hk,A.2⟩))
end Ix
namespace Ix
open Ke
def a7w:List Bs:=[[69,109,109,97],
 [84,104,101,32,115,101,97],
 [195,156,98,101,114,32,100,101,110,32,70,108,117,195,159],
 [87,97,114,32,97,110,100,32,112,101,97,99,101],
 [119,97,114,32,38,32,80,69,65,67,69],
 [65,117,115,116,101,110,44,32,74,97,110,101],
 [84,111,108,115,116,111,121],
 [49,57,56,52],
 [57,55,56,48,51,48,54,52,48,54,49,53,55],
 [48,51,48,54,52,48,54,49,53,50],
 [76,111,110,100,111,110],
 [83,101,97,32,115,116,111,114,105,101,115],
 [65],
 [],
 [69,109,109,97,32,97,110,100,32,116,104,101,32,115,101,97],
 [49,57,57,57],
 [99,49,57,57,57,46],
 [82,105,118,101,114,115],
 [79,99,101,97,110,115,32,45,45,32,72,105,115,116,111,114,121],
 [112,101,97,99,101]]
def c3P:List Bs:=[[48,48,49],
 [50,52,53],
 [49,48,48],
 [48,50,48],
 [54,53,48],
 [55,48,48],
 [50,54,48],
 [53,48,48],
 [57,48,48],
 [57,52,57],
 [48,48,56],
 [50,52,54],
 [54,48,48],
 [49,49,48],
 [52,57,48],
 [48,48,51],
 [57,122,57],
 [50,52],
 [57,57,57],
 [48]]
def c3G:List Bs:=[[49,48],
 [32,32],
 [49,32],
 [48,48],
 [48,32],
 [32,48],
 [51,32],
 [49,50]]
def b3B:Bs:=[97,98,99,48,97,118,120,113]
def a7R (n:Int):Bs:=a7w.getD (n % 20).toNat []
def b6d (n:Int):Bs:=c3P.getD (n % 20).toNat []
structure Four where
  x0:Int
  x1:Int
  x2:Int
  x3:Int
def b6F (q:Four) (j:Nat):Sub:=⟨b3B.getD ((q.x2.tdiv 3+(j:Int)*(1+q.x1 % 3)) % 8).toNat 0,a7R (Go.IntKind.wrap .i64 (q.x3+3*(j:Int)))⟩
def isC (t:Bs):Prop:=1<t.length∧t.take 2=[48,48]
instance (t:Bs):Decidable (isC t):=by unfold isC;exact inferInstance
def c6h (q:Four):JC:=if isC (b6d q.x0)then⟨b6d q.x0,[],a7R q.x3,.slice none 0 0,[]⟩
 else⟨b6d q.x0,c3G.getD (q.x1 % 8).toNat [],[],.slice none 0 0,(List.range (1+(q.x2 % 3).toNat)).map fun j=>b6F q j⟩
def c3M (l:List Four):List JC:=(l.take 20).map c6h
structure a0M where
  drop:Bool
  src:Int
  num:Int
  fs:List Four
def a0M.title (a:a0M):Rec:=(a.src,a.num)
def a0M.record (a:a0M):List JC:=c3M (a.fs.take 8)
def a0M.vs (a:a0M):List V:=vals a.record
def ents (l:List a0M):Ix:=(l.take 20).map fun a=>(a.title,a.vs)
theorem b9m n:(a7R n).length≤17:=by
 unfold a7R;generalize (n % 20).toNat=k;rcases aU k 20 with h|h
 ·have:∀k,k<20→(a7w.getD k []).length≤17:=dE;exact this k h
 rw[List.getD_eq_getElem?_getD,List.getElem?_eq_none (by simpa[a7w]using h)];simp
