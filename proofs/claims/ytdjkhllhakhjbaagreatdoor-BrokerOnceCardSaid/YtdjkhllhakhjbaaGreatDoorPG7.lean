/-
  Own texts on the laws of the seat, joined: the logic, and contracts of functions. Conditions: none.
-/
import Derived.Test.YtdjkhllhakhjbaaGreatDoorNmG
import Derived.Test.YtdjkhllhakhjbaaGreatDoorPG6
import Derived.Shelf.Spec.SlicesGrow
import Derived.Ground.Names8Prog
import Derived.Maps.RangeRun
import Derived.Laws.StructEq
import Derived.Laws.AppendOwn
set_option linter.all false
set_option maxRecDepth 100000
set_option maxHeartbeats 40000000
open List renaming mem_cons -> aA,mem_singleton -> aB,mem_map -> aC,mem_map_of_mem -> aG,mem_append -> aH,one_le_count_iff -> aO,mem_filter -> aP,map_cons -> aT,pairwise_map -> aU,length_cons -> aW,length_eq_zero_iff -> aX,pairwise_cons -> aY,map_append -> aZ,nodup_append -> bC,append_assoc -> bD,nodup_iff_pairwise_ne -> bH,getD_cons_zero -> bJ,getD_cons_succ -> bK,getElem?_eq_some_iff -> bM,getElem?_eq_getElem -> bQ,pairwise_iff_forall_sublist -> bV,perm_middle -> bW,length_drop -> bY,any_eq_true -> bZ,perm_append_comm -> dA,mem_of_getElem? -> dB,length_nil -> dF,getElem?_append_right -> dH,getD_nil -> dL,foldl_append -> dM,size_toArray -> dN,mem_toArray -> dQ,mem_flatMap -> dS,nodup_cons -> dV,append_nil -> dW,sublist_cons_self -> dY,pairwise_and_iff -> eG,take_append_drop -> eX,mem_append_left -> fB,find?_eq_none -> fD,length_append -> fE,append_of_mem -> fH,reverse_cons -> fM,flatten_cons -> fO,not_mem_nil -> fP,length_take -> fV,length_map -> gJ,drop_drop -> gX,map_map -> iE
open Go.Instr renaming checkKey -> aF,sameBits -> bG,sliceBounds -> bU,sliceAt -> dK,slice -> eF
open Go.Builtin renaming zeroCells -> aI,len_ -> iD
open Go.Sem renaming run_bind -> aJ,run_pure -> fG
open Nat renaming one_le_iff_ne_zero -> aK,lt_or_ge -> bF,le_of_mul_le_mul_right -> dJ,le_refl -> dZ,blt -> fK,lt_irrefl -> iC
open Bool renaming and_eq_true -> aN,or_eq_true -> dU,false_ne_true -> fC,eq_iff_iff -> gK,true_and -> gZ
open Go.Result renaming andThen_ok -> aQ
open Array renaming getElem?_eq_none -> aS,getElem?_append_left -> dI,getElem?_modify -> eU,toArray_toList -> fA,mem_filter -> fQ,contains -> gW
open Go.Op renaming equalIn -> aV
open UInt8 renaming ofNat -> bI
open Std renaming lt_of_le_of_ne -> bP,lt_irrefl -> gY
open Go.Sort renaming ahead -> bT
open Go.Proofs.Tryz renaming prog -> cO
open Go.Oper renaming upon -> cZ,wp -> eP
open Option renaming map_some -> dD
open Go.Sx renaming QE -> dG,BP -> dX
open Go.Proofs.AnyF renaming slices_SortFunc_none -> dP
open Go.Lib renaming decodeL_N -> dR
open Go.Sx.Le renaming refl -> eH
open Go.Proofs.AnyQ renaming slices_SortFunc -> eY
open Go.Sx.DZ renaming z -> fF
open Ne renaming symm -> fJ
open Go.Program renaming fieldsOf -> fU
open Option.some renaming inj -> fZ
open Go.Sx.Pure renaming of_same -> gB
open Go.Value renaming func -> gG,oneCell' -> gQ
open Go.Sx.GU renaming equal -> gI
open List.Perm renaming refl -> gU
open Go.Proofs.Lays8 renaming n4 -> iF
namespace Bk
open Ix
structure Fd where
  t:Rec
  k:List UInt8
  p:List Int
deriving DecidableEq,Inhabited
abbrev Idn:=List UInt8×Rec
def BZ (f:Fd):Idn:=if f.k≠[]then(f.k,(0,0))else([],f.t)
def a0Y (a b:Fd):Fd:=⟨if FZ b.t a.t then b.t else a.t,a.k,a.p++b.p⟩
def step1 (id:Idn) (o:Option Fd) (x:Fd):Option Fd:=if BZ x=id then some (match o with|none=>x|some y=>a0Y y x)else o
def grp (id:Idn) (xs:List Fd):Option Fd:=xs.foldl (step1 id) none
theorem VB id xs x:grp id (xs++[x])=step1 id (grp id xs) x:=by
 unfold grp;rw[dM];rfl
theorem QA{f g}(h:BZ f=BZ g):f.k=g.k:=by
 unfold BZ at h
 by_cases h1:f.k=[]
 ·by_cases h2:g.k=[]
  ·rw[h1,h2]
  rw[zF (by simpa using h1),zG h2]at h;exact absurd (zD (·.1) h).symm h2
 by_cases h2:g.k=[]
 ·rw[zG h1,zF (by simpa using h2)]at h;exact absurd (zD (·.1) h) h1
 rw[zG h1,zG h2]at h;exact zD (·.1) h
theorem WX{f g}(h:BZ f=BZ g)(A:f.k=[]):f.t=g.t:=by
 have G:g.k=[]:=(QA h)▸A;unfold BZ at h;rw[zF (by simpa using A),zF (by simpa using G)]at h;exact zD (·.2) h
theorem XQ{f g}(A:f.k=g.k)(G:f.k=[]→f.t=g.t):BZ f=BZ g:=by
 unfold BZ;rw[←A]
 by_cases h:f.k=[]
 ·rw[zF (by simpa using h),zF (by simpa using h),G h]
 rw[zG h,zG h]
theorem a3G{a b}(h:BZ a=BZ b):BZ (a0Y a b)=BZ a:=by
 refine XQ rfl fun A=>?_;have G:=WX h A;unfold a0Y;rw[←G,IQ];rfl
theorem KW{α:Type}{P:List α→Prop}(A:P [])(G:∀xs x,P xs→P (xs++[x])) xs:P xs:=by
 have h:∀l:List α,P l.reverse:=fun l=>by
  induction l with
  |nil=>exact A
  |cons x l N=>rw[fM];exact G _ x N
 have:=h xs.reverse
 rwa [List.reverse_reverse]at this
theorem a1Q{id}:∀{xs:List Fd} {g:Fd},grp id xs=some g→BZ g=id:=by
 intro xs;refine KW (P:=fun xs=>∀{g:Fd},grp id xs=some g→BZ g=id) (fun {g} h=>by cases h) (fun xs x A=>?_) xs;intro g h;rw[VB]at h;unfold step1 at h
 split at h
 ·rename_i G
  cases hg:grp id xs with
  |none=>rw[hg]at h;cases h;exact G
  |some y=>
   rw[hg]at h;cases h;rw[a3G ((A hg).trans G.symm)];exact A hg
 exact A h
def VG (n:Int):List Int→List Int
 |[]=>[n]
 |x::r=>if x<n then x::VG n r else if x=n then x::r else n::x::r
def LQ (l p:List Int):List Int:=p.foldl (fun l n=>VG n l) l
def IY (p:List Int):List Int:=LQ [] p
theorem a3d l a b:LQ l (a++b)=LQ (LQ l a) b:=by unfold LQ;rw[dM]
theorem b0W a b:IY (a++b)=LQ (IY a) b:=a3d [] a b
theorem a5K n:∀(l:List Int) (x:Int),x∈VG n l↔x=n∨x∈l
 |[],x=>by simp[VG]
 |y::r,x=>by
  unfold VG
  split
  ·rw[aA,a5K n r x,aA];exact⟨fun h=>h.elim (fun h=> .inr (.inl h)) fun h=>h.elim .inl fun h=> .inr (.inr h),fun h=>h.elim (fun h=> .inr (.inl h)) fun h=>h.elim .inl fun h=> .inr (.inr h)⟩
  split
  ·rename_i h;subst h
   exact⟨.inr,fun h=>h.elim (fun h=>h▸ .head _) id⟩
  rw[aA]
theorem b3z n:∀(l:List Int),l.Pairwise (· <·)→(VG n l).Pairwise (· <·)
 |[],_=>by simp[VG]
 |y::r,h=>by
  have A:=aY.1 h;unfold VG
  split
  ·rename_i G
   refine aY.2 ⟨fun z hz=>?_,b3z n r A.2⟩;rcases(a5K n r z).1 hz with rfl|hz
   ·exact G
   exact A.1 z hz
  split
  ·exact h
  rename_i N O
  refine aY.2 ⟨fun z hz=>?_,h⟩;rcases aA.1 hz with rfl|hz
  ·omega
  have:=A.1 z hz;omega
theorem a6S:∀(p l:List Int) (x:Int),x∈LQ l p↔x∈p∨x∈l
 |[],l,x=>by simp[LQ]
 |n::r,l,x=>by
  show x∈LQ (VG n l) r↔_;rw[a6S r,a5K,aA];exact⟨fun h=>h.elim (fun h=> .inl (.inr h)) fun h=>h.elim (fun h=> .inl (.inl h)) .inr,fun h=>h.elim (fun h=>h.elim (fun h=> .inr (.inl h)) .inl) fun h=> .inr (.inr h)⟩
theorem a8v:∀(p l:List Int),l.Pairwise (· <·)→(LQ l p).Pairwise (· <·)
 |[],_,h=>h
 |n::r,l,h=>a8v r (VG n l) (b3z n l h)
theorem VK p x:x∈IY p↔x∈p:=by
 unfold IY;rw[a6S];simp
theorem a0x p:(IY p).Pairwise (· <·):=a8v p [] .nil
theorem uniq{α:Type}{R:α→α→Prop}(A:∀a,¬R a a)(tr:∀a b c,R a b→R b c→R a c):∀{l m:List α},l.Pairwise R→m.Pairwise R→(∀x,x∈l↔x∈m)→l=m
 |[],[],_,_,_=>rfl
 |[],b::m,_,_,h=>by have:=(h b).2 (.head _);cases this
 |a::l,[],_,_,h=>by have:=(h a).1 (.head _);cases this
 |a::l,b::m,h1,h2,h=>by
  have G:=aY.1 h1;have N:=aY.1 h2;have Q:a=b:=by
   rcases aA.1 ((h a).1 (.head _))with g|g
   ·exact g
   rcases aA.1 ((h b).2 (.head _))with k|k
   ·exact k.symm
   exact(A a (tr _ _ _ (G.1 _ k) (N.1 _ g))).elim
  subst Q;rw[uniq A tr G.2 N.2 fun x=>⟨fun O=>?_,fun O=>?_⟩]
  ·rcases aA.1 ((h x).1 (.tail _ O))with g|g
   ·subst g;exact(A _ (G.1 _ O)).elim
   exact g
  rcases aA.1 ((h x).2 (.tail _ O))with g|g
  ·subst g;exact(A _ (N.1 _ O)).elim
  exact g
theorem a0d{p q}(h:q.Pairwise (· <·))(A:∀x,x∈q↔x∈p):q=IY p:=
 uniq (fun a h=>oM) (fun a b c h k=>oM) h (a0x p) fun x=>(A x).trans (VK p x).symm
def LP (a b:Fd):Bool:=if a.k≠b.k then decide (a.k<b.k)else FZ a.t b.t
theorem a1P a:LP a a=false:=by unfold LP;rw[zF sI];exact IQ _
theorem a3J{a b c}(h:LP a b=true)(g:LP b c=true):LP a c=true:=by
 unfold LP at*
 by_cases h1:a.k=b.k
 ·rw[zF (by simpa using h1)]at h
  by_cases h2:b.k=c.k
  ·rw[zF (by simpa using h2)]at g;rw[zF (by simpa using h1.trans h2)];exact LH h g
  rw[zG h2]at g;rw[h1,zG h2];exact g
 rw[zG h1,zH]at h
 by_cases h2:b.k=c.k
 ·rw[←h2,zG h1,zH];exact h
 rw[zG h2,zH]at g;have A:=Std.lt_trans h g;have G:a.k≠c.k:=fun e=>by rw[e]at A;exact gY A
 rw[zG G,zH];exact A
def norm (f:Fd):Fd:=⟨f.t,f.k,IY f.p⟩
theorem ZG f:BZ (norm f)=BZ f:=rfl
structure IL (xs r:List Fd):Prop where
  KQ:r.Pairwise fun a b=>LP a b=true
  mem:∀f,f∈r↔∃id g,grp id xs=some g∧norm g=f
theorem IL.uniq{xs r s}(h:IL xs r)(g:IL xs s):r=s:=
 Bk.uniq (R:=fun a b=>LP a b=true) (fun a h=>by rw[a1P]at h;cases h) (fun _ _ _ h k=>a3J h k) h.KQ g.KQ fun x=>(h.mem x).trans (g.mem x).symm
def same (a b:Fd):Bool:=(!(a.k == [])) && a.k == b.k || (a.k == [] && b.k == [] && a.t == b.t)
theorem same_iff{a b}:same a b=true↔BZ a=BZ b:=by
 constructor
 ·intro h;refine XQ ?_ fun A=>?_
  ·unfold same at h;simp only[dU,aN,beq_iff_eq]at h;rcases h with h|h
   ·exact h.2
   rw[h.1.1,h.1.2]
  unfold same at h;rw[A]at h;simp only[beq_self_eq_true,Bool.not_true,Bool.false_and,Bool.false_or,gZ,aN,beq_iff_eq]at h;exact h.2
 intro h;have A:=QA h;unfold same
 by_cases h0:a.k=[]
 ·rw[←A,h0,WX h h0];simp
 rw[←A];simp[h0]
def a1B:List Fd→Fd→List Fd
 |[],f=>[⟨f.t,f.k,IY f.p⟩]
 |x::r,f=>if same x f then⟨if FZ f.t x.t then f.t else x.t,x.k,LQ x.p f.p⟩::r else x::a1B r f
def a0E (xs:List Fd):List Fd:=xs.foldl a1B []
theorem a1b xs x:a0E (xs++[x])=a1B (a0E xs) x:=by unfold a0E;rw[dM];rfl
def ZT (id:Idn) (l:List Fd):Option Fd:=l.find? fun f=>decide (BZ f=id)
theorem YH id x r:ZT id (x::r)=if BZ x=id then some x else ZT id r:=by
 unfold ZT
 by_cases h:BZ x=id<;>simp[h]
theorem b4s id f:∀l:List Fd,ZT id (a1B l f)=if BZ f=id then some (match ZT id l with|none=>norm f|some x=>⟨if FZ f.t x.t then f.t else x.t,x.k,LQ x.p f.p⟩)else ZT id l
 |[]=>by unfold a1B;rw[YH];rfl
 |x::r=>by
  have N:=b4s id f r;unfold a1B
  by_cases hs:same x f=true
  ·rw[zG hs];have A:=same_iff.1 hs;have O:BZ (⟨if FZ f.t x.t then f.t else x.t,x.k,LQ x.p f.p⟩:Fd)=BZ x:=a3G (a:=x) (b:=f) A;rw[YH,YH,O,←A]
   by_cases h:BZ x=id
   ·simp only[zG h]
   simp only[zF h]
  rw[zF hs,YH,YH,N];have G:BZ x≠BZ f:=fun g=>hs (same_iff.2 g)
  by_cases h:BZ x=id
  ·rw[zG h,zF (fun g=>G (h.trans g.symm)),zG h]
  rw[zF h,zF h]
theorem c1S id xs:ZT id (a0E xs)=(grp id xs).map norm:=by
 refine KW (P:=fun xs=>ZT id (a0E xs)=(grp id xs).map norm) rfl (fun xs x A=>?_) xs;rw[a1b,b4s,VB,A];unfold step1
 by_cases h:BZ x=id
 ·rw[zG h,zG h];cases hg:grp id xs with
  |none=>rfl
  |some y=>
   show some (⟨_,_,LQ (IY y.p) x.p⟩:Fd)=some (norm (a0Y y x));unfold norm a0Y;rw[b0W]
 rw[zF h,zF h]
theorem b2n f:∀l:List Fd,((a1B l f).map BZ)=if BZ f∈l.map BZ then l.map BZ else l.map BZ++[BZ f]
 |[]=>by simp[a1B,BZ]
 |x::r=>by
  have G:=b2n f r;unfold a1B
  by_cases hs:same x f=true
  ·have h:=same_iff.1 hs;rw[zG hs,aT,aT,zG (c:=BZ f∈BZ x::r.map BZ) (by rw[←h];exact .head _)]
   congr 1
   exact a3G (a:=x) (b:=f) h
  have A:BZ f≠BZ x:=fun g=>hs (same_iff.2 g.symm);rw[zF hs,aT,aT,G]
  by_cases hm:BZ f∈r.map BZ
  ·rw[zG hm,zG (.tail _ hm)]
  rw[zF hm,zF (fun g=>(aA.1 g).elim A hm)];rfl
theorem a7r xs:((a0E xs).map BZ).Nodup:=by
 refine KW (P:=fun xs=>((a0E xs).map BZ).Nodup) List.nodup_nil (fun xs x A=>?_) xs;rw[a1b,b2n]
 split
 ·exact A
 rename_i h
 rw[bC];refine⟨A,sI,fun a N b G=>?_⟩;rw[aB]at G;subst G;exact fun e=>h (e▸N)
theorem b0k{l}(h:(l.map BZ).Nodup){f}:f∈l↔ZT (BZ f) l=some f:=by
 induction l with
 |nil=>simp[ZT]
 |cons x r A=>
  rw[aT,dV]at h;unfold ZT
  by_cases he:BZ x=BZ f
  ·rw[List.find?_cons_of_pos (by simpa using he),aA,Option.some_inj];constructor
   ·rintro(rfl|G)
    ·rfl
    exact absurd (he▸aG G) h.1
   rintro rfl;exact .inl rfl
  rw[List.find?_cons_of_neg (by simpa using he),aA];rw[show List.find? (fun g=>decide (BZ g=BZ f)) r=ZT (BZ f) r from rfl,←A h.2];exact⟨fun h=>h.elim (fun e=>absurd (e▸rfl) he) id,.inr⟩
theorem b1h xs f:f∈a0E xs↔∃id g,grp id xs=some g∧norm g=f:=by
 rw[b0k (a7r xs),c1S];constructor
 ·intro h;cases hg:grp (BZ f) xs with
  |none=>rw[hg]at h;cases h
  |some g=>rw[hg]at h;exact⟨_,g,hg,fZ h⟩
 rintro⟨id,g,hg,rfl⟩;rw[ZG,a1Q hg,hg];rfl
theorem b3O{a b}(h:BZ a≠BZ b):LP a b=true∨LP b a=true:=by
 unfold LP
 by_cases hk:a.k=b.k
 ·rw[zF (by simpa using hk),zF (by simpa using hk.symm)];rcases RF a.t b.t with g|g|g
  ·exact .inl g
  ·exact absurd (XQ hk fun _=>g) h
  exact .inr g
 rw[zG hk,zG (fJ hk),zH,zH];rcases Std.le_total (a:=a.k) (b:=b.k)with A|A
 ·exact .inl (bP A hk)
 exact .inr (bP A (fJ hk))
end Bk
namespace Bk
open Ix
theorem c2X{xs ls:List Fd}(hn:(ls.map BZ).Nodup)(N:∀f,f∈ls↔∃id,grp id xs=some f)(O:ls.Pairwise fun p q=>LP q p=false):IL xs (ls.map norm):=by
 refine⟨?_,fun f=>?_⟩
 ·rw[aU];have h:=bH.1 hn;rw[aU]at h;exact(eG.2 ⟨O,h⟩).imp fun {a b} ⟨Q,Z⟩=>(b3O Z).resolve_right (by rw[Q];exact fC)
 rw[aC];exact⟨fun⟨g,hg,A⟩=>let ⟨id,G⟩:=(N g).1 hg;⟨id,g,G,A⟩,fun⟨id,g,G,A⟩=>⟨g,(N g).2 ⟨id,G⟩,A⟩⟩
theorem a7y{xs r}(A:r.Perm (a0E xs))(G:r.Pairwise fun p q=>LP q p=false):IL xs r:=by
 have hn:(r.map BZ).Nodup:=(A.map _).nodup_iff.2 (a7r xs);refine⟨?_,fun f=>A.mem_iff.trans (b1h xs f)⟩;have h:=bH.1 hn;rw[aU]at h;exact(eG.2 ⟨G,h⟩).imp fun {a b} ⟨N,O⟩=>(b3O O).resolve_right (by rw[N];exact fC)
theorem b3F x y (h:LP x y=true):LP y x=false:=by
 cases hc:LP y x with
 |false=>rfl
 |true=>have:=a3J h hc;rw[a1P]at this;cases this
theorem b3s x y z (h:LP x z=true):LP x y=true∨LP y z=true:=by
 by_cases h1:x.k=y.k
 ·by_cases h2:y.k=z.k
  ·unfold LP at *;rw[zF (by simpa using h1.trans h2)]at h;rw[zF (by simpa using h1),zF (by simpa using h2)];rcases RF x.t y.t with g|g|g
   ·exact .inl g
   ·rw[←g];exact .inr h
   exact .inr (LH g h)
  right
  unfold LP at *;rw[zG (h1▸h2)]at h;rw[zG h2,←h1];exact h
 rcases Std.le_total (a:=x.k) (b:=y.k)with g|g
 ·left
  unfold LP;rw[zG h1,zH];exact bP g h1
 right
 have N:y.k<x.k:=bP g (fJ h1)
 by_cases h3:x.k=z.k
 ·have A:y.k≠z.k:=fun e=>h1 (h3.trans e.symm);unfold LP;rw[zG A,zH,←h3];exact N
 unfold LP at h;rw[zG h3,zH]at h;have G:=Std.lt_trans N h;have A:y.k≠z.k:=fun e=>by rw[e]at G;exact gY G
 unfold LP;rw[zG A,zH];exact G
def gn (id:Idn) (xs:List Fd):Option Fd:=(grp id xs).map norm
theorem IL.b5R{xs ys r}(h:IL xs r)(G:∀id,gn id xs=gn id ys):IL ys r:=by
 refine⟨h.KQ,fun f=>(h.mem f).trans ?_⟩;have key:∀zs:List Fd,(∃id g,grp id zs=some g∧norm g=f)↔∃id,gn id zs=some f:=fun zs=>by
  unfold gn;constructor
  ·rintro⟨id,g,A,N⟩;exact⟨id,by rw[A,←N];rfl⟩
  rintro⟨id,A⟩;cases hg:grp id zs with
  |none=>rw[hg]at A;cases A
  |some g=>rw[hg]at A;exact⟨id,g,hg,fZ A⟩
 rw[key,key];exact exists_congr fun id=>by rw[G id]
theorem b5C p:IY (IY p)=IY p:=(a0d (a0x p) fun x=>(VK p x)).symm▸(a0d (p:=IY p) (a0x p) fun x=>Iff.rfl).symm
theorem YQ{p q}(h:∀x,x∈p↔x∈q):IY p=IY q:=a0d (a0x p) fun x=>(VK p x).trans (h x)
def a0K (a b:Rec):Rec:=if FZ b a then b else a
theorem b7k a b:a0K a b=a0K b a:=by
 unfold a0K;rcases RF a b with h|h|h
 ·rw[a5q h,h];rfl
 ·rw[h]
 rw[a5q h,h];rfl
theorem b5v a b c:a0K (a0K a b) c=a0K a (a0K b c):=by
 obtain⟨_,_⟩:=a;obtain⟨_,_⟩:=b;obtain⟨c1,_⟩:=c;unfold a0K FZ;simp only[dU,aN,zH]
 repeat(first|split|(simp only[Prod.mk.injEq];omega)|omega|rfl)
theorem b8z a:a0K a a=a:=by unfold a0K;rw[IQ];rfl
def jn (a b:Fd):Fd:=⟨a0K a.t b.t,a.k,IY (a.p++b.p)⟩
def oj:Option Fd→Option Fd→Option Fd
 |none,o=>o
 |some a,none=>some a
 |some a,some b=>some (jn a b)
theorem c2N a b:jn (norm a) (norm b)=jn a b:=by
 unfold jn norm;simp only;rw[YQ (p:=IY a.p++IY b.p) (q:=a.p++b.p) fun x=>by rw[aH,aH,VK,VK]]
theorem b8f a b:norm (a0Y a b)=jn (norm a) (norm b):=by rw[c2N];rfl
theorem c3w{a b}(h:a.k=b.k):jn a b=jn b a:=by
 unfold jn;rw[b7k,h,YQ (p:=a.p++b.p) (q:=b.p++a.p) fun x=>by rw[aH,aH];exact Or.comm]
theorem c0c a b c:jn (jn a b) c=jn a (jn b c):=by
 unfold jn;simp only;rw[b5v,YQ (p:=IY (a.p++b.p)++c.p) (q:=a.p++IY (b.p++c.p)) fun x=>by simp only[aH,VK];exact or_assoc]
theorem c2S{a}(h:a.p=IY a.p):jn a a=a:=by
 unfold jn;rw[b8z,YQ (p:=a.p++a.p) (q:=a.p) fun x=>by rw[aH];exact or_self_iff,←h]
theorem c4B id:gn id []=none:=rfl
theorem b8W id x:gn id [x]=if BZ x=id then some (norm x)else none:=by
 show(step1 id none x).map norm=_;unfold step1
 split<;>rfl
theorem b3t id xs x:gn id (xs++[x])=oj (gn id xs) (gn id [x]):=by
 rw[b8W];unfold gn;rw[VB];unfold step1
 by_cases h:BZ x=id
 ·rw[zG h,zG h];cases grp id xs with
  |none=>rfl
  |some y=>exact zD some (b8f y x)
 rw[zF h,zF h];cases grp id xs<;>rfl
theorem a8e o:oj o none=o:=by cases o<;>rfl
theorem b9i a b c:oj (oj a b) c=oj a (oj b c):=by
 cases a<;>cases b<;>cases c<;>simp only[oj,c0c]
theorem PE id xs ys:gn id (xs++ys)=oj (gn id xs) (gn id ys):=by
 refine KW (P:=fun ys=>gn id (xs++ys)=oj (gn id xs) (gn id ys)) ?_ (fun ys y h=>?_) ys
 ·rw[dW,c4B,a8e]
 rw[←bD,b3t,h,b3t,b9i]
theorem a1M{id xs f}(h:gn id xs=some f):BZ f=id∧f.p=IY f.p:=by
 unfold gn at h;cases hg:grp id xs with
 |none=>rw[hg]at h;cases h
 |some g=>
  rw[hg]at h;cases h;exact⟨(ZG g).trans (a1Q hg),(b5C g.p).symm⟩
theorem b4p{id xs ys}:oj (gn id xs) (gn id ys)=oj (gn id ys) (gn id xs):=by
 cases h1:gn id xs with
 |none=>rw[a8e];rfl
 |some a=>
  cases h2:gn id ys with
  |none=>rfl
  |some b=>exact zD some (c3w (QA ((a1M h1).1.trans (a1M h2).1.symm)))
theorem c2O{id xs}:oj (gn id xs) (gn id xs)=gn id xs:=by
 cases h:gn id xs with
 |none=>rfl
 |some a=>exact zD some (c2S (a1M h).2)
theorem c2l id xs ys:gn id (xs++ys)=gn id (ys++xs):=by rw[PE,PE,b4p]
theorem b0b{xs r}(h:IL xs r) id:gn id r=gn id xs:=by
 have key:∀id,gn id xs=none∨∃f,gn id xs=some f∧f∈r:=fun id=>by
  cases hg:grp id xs with
  |none=>left;unfold gn;rw[hg];rfl
  |some g=>right;exact⟨norm g,by unfold gn;rw[hg];rfl,(h.mem _).2 ⟨id,g,hg,rfl⟩⟩
 have N:∀f∈r,gn (BZ f) xs=some f:=fun f hf=>by
  obtain⟨_,g,Q,h2⟩:=(h.mem f).1 hf;have h3:=a1Q Q;subst h2;rw[ZG,h3];unfold gn;rw[Q];rfl
 have O:(r.map BZ).Nodup:=by
  rw[bH,aU];have h0:r.Pairwise fun a b=>LP a b=true:=h.KQ;refine(bV.2 fun {a b} hs=>?_);have Z:=bV.1 h0 hs;intro A;have ha:=N a (hs.subset (.head _));have a0:=N b (hs.subset (.tail _ (.head _)));rw[A,a0]at ha;cases ha;rw[a1P]at Z;cases Z
 -- what is joined in a list whose identities are apart
 have one:∀l:List Fd,(l.map BZ).Nodup→(∀f∈l,f.p=IY f.p)→gn id l=ZT id l:=fun l=>by
  induction l with
  |nil=>intro _ _;rfl
  |cons x l ih=>
   intro hn hp;rw[aT,dV]at hn;rw[show x::l=[x]++l from rfl,PE,b8W,ih hn.2 fun f hf=>hp f (.tail _ hf),List.singleton_append,YH]
   by_cases hx:BZ x=id
   ·rw[zG hx,zG hx];have a1:ZT id l=none:=by
     unfold ZT;rw[fD];intro f hf A;exact hn.1 (hx.trans (zA A).symm▸aG hf)
    rw[a1,a8e]
    congr 1
    unfold norm;rw[←hp x (.head _)]
   rw[zF hx,zF hx];rfl
 rw[one r O fun f hf=>(a1M (N f hf)).2];rcases key id with G|⟨f,G,hf⟩
 ·rw[G];unfold ZT;rw[fD];intro f hf A;have:=N f hf;rw[zA A,G]at this;cases this
 rw[G];have:=(a1M G).1;rw[←this];exact(b0k O).1 hf
theorem b3f id (L:List (List Fd)):gn id L.reverse.flatten=gn id L.flatten:=by
 induction L with
 |nil=>rfl
 |cons x L h=>
  rw[fM,List.flatten_append,PE,h,fO,←PE];simp only[fO,List.flatten_nil,dW];exact c2l id _ _
theorem IL.parts{x y r s}(h:IL y r)(g:IL x s):∀id,gn id (r++s)=gn id (x++y):=fun id=>by
 rw[PE,b0b h,b0b g,b4p,PE]
theorem IL.twice{x r}(h:IL x r):∀id,gn id (r++r)=gn id x:=fun id=>by
 rw[PE,b0b h,c2O]
def MB (xs:List Fd):Nat:=(xs.map fun f=>f.p.length).sum
theorem QK xs ys:MB (xs++ys)=MB xs+MB ys:=by unfold MB;rw[aZ,List.sum_append]
theorem a6m x:MB [x]=x.p.length:=by simp[MB]
theorem a4B{id} xs:∀{g:Fd},grp id xs=some g→g.p.length≤MB xs:=by
 refine KW (P:=fun xs=>∀{g:Fd},grp id xs=some g→g.p.length≤MB xs) (fun {g} h=>by cases h) (fun xs x A=>?_) xs;intro g h;rw[QK,a6m];rw[VB]at h;unfold step1 at h
 split at h
 ·cases hg:grp id xs with
  |none=>
   rw[hg]at h;cases h;show x.p.length≤_;omega
  |some y=>
   rw[hg]at h;cases h;have:=A hg;show(y.p++x.p).length≤_;rw[fE];omega
 have:=A h;omega
theorem b3x{id} xs:∀{g:Fd},grp id xs=some g→id∈xs.map BZ:=by
 refine KW (P:=fun xs=>∀{g:Fd},grp id xs=some g→id∈xs.map BZ) (fun {g} h=>by cases h) (fun xs x A=>?_) xs;intro g h;rw[VB]at h;rw[aZ,aH];unfold step1 at h
 split at h
 ·rename_i G;exact .inr (by simp[G])
 exact .inl (A h)
end Bk
namespace Go.Proofs.YtdjkhllhakhjbaaGreatDoor
open Go Go.Shelf Go.RowKit Go.Lib Go.Sort
structure Fv where
  f:Bk.Fd
  a:Option Addr
  c:Nat
deriving Inhabited
abbrev Fv.v (x:Fv):Value:= .slice x.a x.f.p.length x.c
abbrev CY (x:Fv):List Value:=[.int .i64 x.f.t.1,.int .i64 x.f.t.2,Sx.str x.f.k,x.v]
theorem CS x:(CY x).length=4:=rfl
theorem c3S x:(CY x).all gQ=true:=rfl
def a6x (x y:Fv):Int:=MH (MO x.f.k y.f.k) (ZI x.f.t y.f.t)
theorem a2K x y:ltOf a6x x y=Bk.LP x.f y.f:=by
 have hr:=RD x.f.t y.f.t;unfold ltOf at hr ⊢;unfold a6x Bk.LP MH MO
 by_cases h:x.f.k<y.f.k
 ·have A:x.f.k≠y.f.k:=fun e=>by rw[e]at h;exact List.lt_irrefl _ h
  rw[zG h,zG A,zI h];rfl
 rw[zF h]
 by_cases h2:y.f.k<x.f.k
 ·have A:x.f.k≠y.f.k:=fun e=>h (e▸h2);rw[zG h2,zG A,zJ h];rfl
 have G:x.f.k=y.f.k:=List.le_antisymm (List.not_lt.1 h2) (List.not_lt.1 h);rw[zF h2,zF sI,zF (by simpa using G)];exact hr
theorem b6V : SWO (ltOf a6x) where
  irrefl x := by rw [a2K]; exact Bk.a1P _
  trans x y z h1 h2 := by rw [a2K] at *; exact Bk.a3J h1 h2
  ntrans x y z h1 h2 := by
    rw [a2K] at *
    cases h : Bk.LP x.f z.f with
    | false => rfl
    | true => rcases Bk.b3s x.f y.f z.f h with g | g
              · rw [h1] at g; cases g
              rw [h2] at g; cases g
theorem b7o{base} l g (hg:Sx.BM base 4 l.length (l.flatMap CY) g)(hl:l.length≤100000000000000) I:Sx.yS cO 62 [Sx.gV l.length g,.func (.func 24) #[] #[]] I (Sx.gH 37 (l.flatMap CY) g)
 (fun e a3 H'=>∃l':List Fv,l'.Perm l∧l'.Pairwise (fun p q=>Bk.LP q.f p.f=false)∧e= .returned (.tuple #[])∧H'=Sx.gH 37 (l'.flatMap CY) g):=by
 cases g with
 |none=>
  obtain⟨A,O⟩:=hg;have h0:l=[]:=aX.1 A;subst h0;exact(gB (Sx.Enters.of Tryz.func62 dE rfl) (fun w _=>dP Tryz.sortD none 0 (.func (.func 24) #[] #[]) w)).mono fun e _ H' _ ⟨A,_,G⟩=>⟨[],gU _,List.Pairwise.nil,A,G⟩
 |some q=>
  obtain⟨b,c,sp⟩:=q;refine⟨Sx.Enters.of Tryz.func62 dE rfl,fun w hw=>?_⟩;have Q:=hw.2.1 _ (.head _);have a1:b<w.heap.size:=by
   rcases bF b w.heap.size with h|h
   ·exact h
   rw[aS h]at Q;cases Q
  have eg:∀args w,(callFunc 24 args).run cO w= .ok (.enter 24 args) w:=enters_of Tryz.func24 kR rfl;have hH:HoldsK CY 4 w b 0 l.toArray:=by
   unfold HoldsK;rw[dG CS];exact Sx.XC Q
  have Z:CmpLays cO 24 #[] CY 4 a6x b 0 l.toArray.size w:=fun m os _ _ x y=>b8N x.f.k y.f.k x.f.t.1 x.f.t.2 y.f.t.1 y.f.t.2 _ _ _;have a0:=eY Tryz.sortD 4 LX CV CY CS (fun x v hv=>by
   simp only[aA,fP,or_false]at hv;rcases hv with rfl|rfl|rfl|rfl<;>rfl) a6x b6V 24 #[] b 0 c l.toArray w eg Z hH a1 (by simp;omega)
  refine a0.mono fun e w' ⟨A,N,n,os,O,G,h4⟩=>?_;rw[dN]at O G;have hp:=Sx.TT O;have a2:N.size=l.length:=by have:=hp.length_eq;simpa using this
  rw[←a2]at G;refine⟨I,_,?_,N.toList,hp,(Sx.sorted_in G).imp fun h=>?_,A,rfl⟩
  ·rw[h4];unfold sortWorldK putRowK;rw[show N=N.toList.toArray from(fA (xs:=N)).symm,dG CS];exact Sx.St.b1N n os hw (by rw[dX CS,dX CS,hp.length_eq])
  rw[a2K]at h;exact h
theorem b7R{base} l g (hg:Sx.BM base 2 l.length (l.flatMap AX) g)(hl:l.length≤100000000000000) I:Sx.yS cO 78 [Sx.gV l.length g,.func (.func 36) #[] #[]] I (Sx.gH 41 (l.flatMap AX) g)
 (fun e a3 H'=>∃l':List (List UInt8×Int),l'.Perm l∧l'.Pairwise (fun p q=>¬q.1<p.1)∧e= .returned (.tuple #[])∧H'=Sx.gH 41 (l'.flatMap AX) g):=by
 cases g with
 |none=>
  obtain⟨A,O⟩:=hg;have h0:l=[]:=aX.1 A;subst h0;exact(gB (Sx.Enters.of Tryz.func78 dE rfl) (fun w _=>dP Tryz.sortL none 0 (.func (.func 36) #[] #[]) w)).mono fun e _ H' _ ⟨A,_,G⟩=>⟨[],gU _,List.Pairwise.nil,A,G⟩
 |some q=>
  obtain⟨b,c,sp⟩:=q;refine⟨Sx.Enters.of Tryz.func78 dE rfl,fun w hw=>?_⟩;have Q:=hw.2.1 _ (.head _);have a1:b<w.heap.size:=by
   rcases bF b w.heap.size with h|h
   ·exact h
   rw[aS h]at Q;cases Q
  have eg:∀args w,(callFunc 36 args).run cO w= .ok (.enter 36 args) w:=enters_of Tryz.func36 kR rfl;have hH:HoldsK AX 2 w b 0 l.toArray:=by
   unfold HoldsK;rw[dG BL];exact Sx.XC Q
  have Z:CmpLays cO 36 #[] AX 2 XT b 0 l.toArray.size w:=fun m os _ _ x y=>b9V x.1 y.1 x.2 y.2 _;have a0:=eY Tryz.sortL 2 NS CQ AX BL (fun x v hv=>by
   simp only[aA,fP,or_false]at hv;rcases hv with rfl|rfl<;>rfl) XT a4S 36 #[] b 0 c l.toArray w eg Z hH a1 (by simp;omega)
  refine a0.mono fun e w' ⟨A,N,n,os,O,G,h4⟩=>?_;rw[dN]at O G;have hp:=Sx.TT O;have a2:N.size=l.length:=by have:=hp.length_eq;simpa using this
  rw[←a2]at G;refine⟨I,_,?_,N.toList,hp,(Sx.sorted_in G).imp fun h=>?_,A,rfl⟩
  ·rw[h4];unfold sortWorldK putRowK;rw[show N=N.toList.toArray from(fA (xs:=N)).symm,dG BL];exact Sx.St.b1N n os hw (by rw[dX BL,dX BL,hp.length_eq])
  rw[WS]at h;exact BJ h
end Go.Proofs.YtdjkhllhakhjbaaGreatDoor
namespace Go.Proofs
open _root_.Go.Proofs.Tryz
open Go.Shelf
def Tryz.a8R:Go.Shelf.Ren:=⟨fun|4=>44|n=>n,fun|22=>35|25=>3|3=>3|4=>4|9=>9|20=>20|0=>0|n=>n,fun|n=>n⟩
theorem Tryz.growI:iF cO Tryz.a8R:={
 mixed:=kR
 f4:=⟨Tryz.f44.name,dE,func44.trans (zD some kR)⟩
 t0:=underlying0
 a0:=isAgg0
 z0:=sizeOf0
 v0:=zeroValue0
 t3:=underlying3
 a3:=isAgg3
 z3:=sizeOf3
 v3:=zeroValue3
 t4:=underlying4
 a4:=isAgg4
 z4:=sizeOf4
 v4:=zeroValue4
 t9:=underlying9
 a9:=isAgg9
 z9:=sizeOf9
 v9:=zeroValue9
 t20:=underlying20
 a20:=isAgg20
 z20:=sizeOf20
 v20:=zeroValue20
 t22:=underlying35
 a22:=isAgg35
 z22:=sizeOf35
 v22:=zeroValue35 }
end Go.Proofs
namespace Go.Sx
open Go
def YSG {σ:Type} (P:Program) (l:Nat) (nx:Heap→σ→List Value→σ→Prop) (Y:σ→Heap→HL→Prop) (Z:Heap→HL→Prop):Prop:=
 ∀s args s' I H,nx I s args s'→Y s I H→YC P l args I H (fun e I' H'=>(e= .returned (.bool true)∧Y s' I' H')∨(e= .returned (.bool false)∧Z I' H'))
def a1L {σ:Type} (P:Program) (f:FuncId) (fst cap:List Value) (I:Heap) (s0:σ) (nx:Heap→σ→List Value→σ→Prop) (fin:σ→Prop):Prop:=
 Enters P f∧∀(l:Nat) (Y:σ→Heap→HL→Prop) (Z:Heap→HL→Prop),(∀s I1 I2 H,Le I1 I2→Y s I1 H→Y s I2 H)→YSG P l nx Y Z→
  ∀H,Y s0 I H→yS P f (fst++[.func (.yield l) #[] #[]]++cap) I H (fun e I' H'=>e= .returned (.tuple #[])∧((∃s,fin s∧Y s I' H')∨Z I' H'))
section
variable {σ:Type} {cx:Cx} {Q:Qt} {e:Env} {I:Heap} {H:HL} {l:Nat} {r:Loop}
theorem Cj.a2B{g ps assign body f a5 a6 H1 R} s0 (nx:Heap→σ→List Value→σ→Prop)(fin:σ→Prop)(Y:σ→Heap→HL→Prop)(Z:Code→Heap→HL→Prop)
 (hr:cx.rd=none)(aj:∀t∈ps,Nat.blt t cx.n=true)(af:∀I s args s',nx I s args s'→args.length=ps.length)(hg:ev e g=some (.func (.func f) a5.toArray a6.toArray))(a9:a1L cx.P f a5 a6 I s0 nx fin)
 (ac:∀k N I2 H,Le N I2→Y k N H→Y k I2 H)(h0:Y s0 I H1)
 (round:∀l r k args k2 N G w0,nx N k args k2→Le I N→Y k N G→
  Cj ⟨cx.P,cx.n,w0,l::G.map (·.1),N,[],some l⟩ (c0q ⟨cx.P,cx.n,w0,l::G.map (·.1),N,[],some l⟩ l r body (RdQ ⟨cx.P,cx.n,w0,l::G.map (·.1),N,[],some l⟩ l r (Y k2) Z)) assign (a6D ps args e) N ((l,.loop r)::G))
 (done:∀b s I' H',fin s→Le I I'→Y s I' H'→Ej { cx with ds:=ND b::cx.ds } Q .normal e I' ((b,.deferred (some []))::(H'++R)))
 (left:∀b c I' H',Le I I'→Z c I' H'→Cj { cx with ds:=ND b::cx.ds } Q c e I' ((b,.deferred (some []))::(H'++R))):
 Cj cx Q (.rangeFunc g ps.toArray assign body) e I (H1++R):=by
 intro a w ha ak;rw[Cx.wide hr];refine wpIn_rangeFunc fun fn _=>?_;obtain⟨r,O⟩:∃r:Loop,r={ state:= .ready,pending:=none,fn:=fn,tmps:=a.tmps,params:=ps.toArray,assign:=assign,body:=body,defers:=w.heap.size }:=⟨_,rfl⟩;obtain⟨l,hl⟩:∃l,l=w.heap.size+1:=⟨_,rfl⟩;have hst1:St cx.w0 cx.D cx.I0 I (((l,.loop r)::H1)++((w.heap.size,.deferred (some []))::R)) ((w.alloc (.deferred (some []))).alloc (.loop r)):=by
  have h1:=(ak.alloc (.deferred (some []))).alloc (.loop r);have h2:(w.heap.push (.deferred (some []))).size=l:=by rw[hl,Array.size_push]
  rw[h2]at h1;refine h1.perm ?_;show((l,Obj.loop r)::(H1++(w.heap.size,Obj.deferred (some []))::R)).Perm _;exact List.Perm.cons _ bW
 let Y':σ→Heap→HL→Prop:=fun k N H=>Le I N∧∃G,H=(l,.loop r)::G∧Y k N G
 let Z':Heap→HL→Prop:=fun N H=>∃c G,H=(l,.loop { r with state:= .done,pending:=some c })::G∧Z c N G
 have al:YSG cx.P l nx Y' Z':=by
  rintro k args k2 N H hk ⟨a1,G,rfl,hY⟩ w1 A;have am:w1.heap[l]?=some (.loop r):=A.2.1 _ (.head _);have an:=af _ _ _ _ hk;refine⟨r.fn,_,r.assign,r.body,run_yield am (by rw[O];simp[an]),roundIn_of_wpIn trivial ?_⟩;have hz:(r.params.zip args.toArray).foldl (fun tmps (x:Tmp×Value)=>tmps.setIfInBounds x.1 x.2) r.tmps=(ps.zip args).foldl (fun tmps (x:Tmp×Value)=>tmps.setIfInBounds x.1 x.2) a.tmps:=by
   rw[O];simp[List.zip_toArray]
  have aa:=Has.zip (n:=cx.n) ps args e a.tmps aj ⟨ha.size,rfl,ha.get⟩;rw[←hz]at aa;have hc:=round l r k args k2 N G w1 hk a1 hY _ _ aa (St.start w1 N ((l,.loop r)::G) A.1 A.2.1 A.2.2.1 A.2.2.2);have e1:r.assign=assign:=by rw[O]
  have e2:r.body=body:=by rw[O]
  rw[e1,e2];refine wpIn_mono hc ?_;rintro x a2 _ hq;cases x with
  |normal=>
   obtain⟨e2,I2,_,a7,ad,hb⟩:=hq;refine⟨_,run_beginRound (ad.own _ (.head _)) (by rw[O]),?_⟩;have ao:=ad.block (i:=0) (o':= .loop { r with state:= .busy }) rfl fF;refine wpIn_mono (hb a2 _ a7 ao) ?_;rintro x _ _ a3;cases x with
   |normal=>
    obtain⟨I3,H3,a0,ap⟩:=a3;refine⟨_,_,run_endRound none (a0.own _ (.head _)),I3,(l,.loop r)::H3,?_,.inl ⟨rfl,a1.trans a0.le,H3,rfl,ap⟩⟩;have:=a0.block (i:=0) (o':= .loop r) rfl fF;rw[O]at this ⊢;exact this
   |ret=>
    obtain⟨I3,H3,a0,ab⟩:=a3;exact⟨_,_,run_endRound (some .ret) (a0.own _ (.head _)),I3,_,a0.block (i:=0) rfl fF,.inr ⟨rfl,_,H3,rfl,ab⟩⟩
   |exit id=>
    obtain⟨I3,H3,a0,ab⟩:=a3;exact⟨_,_,run_endRound (some (.exit id)) (a0.own _ (.head _)),I3,_,a0.block (i:=0) rfl fF,.inr ⟨rfl,_,H3,rfl,ab⟩⟩
   |goto t=>exact a3.elim
   |panic ch=>exact a3.elim
   |outgrown=>exact a3.elim
  |exit id=>exact hq.elim
  |goto t=>exact hq.elim
  |ret=>exact hq.elim
  |panic ch=>exact hq.elim
  |outgrown=>exact hq.elim
 have ag:=a9.2 l Y' Z' (fun k N I2 H a1 ⟨h1,G,h2,h3⟩=>⟨h1.trans a1,G,h2,ac _ _ _ _ a1 h3⟩) al ((l,.loop r)::H1) ⟨eH _,H1,rfl,h0⟩;have A:Ready I ((l,.loop r)::H1) ((w.alloc (.deferred (some []))).alloc (.loop r)):=⟨hst1.sub,fun p hp=>hst1.own p (fB _ hp),by
  have:=hst1.nodup;rw[aZ,bC]at this;exact this.1,fun p hp=>hst1.dis p (fB _ hp)⟩
 have ah:(Instr.enterLoop fn a.tmps ps.toArray assign body none).run cx.P w= .ok (l,[ND w.heap.size]) ((w.alloc (.deferred (some []))).alloc (.loop r)):=by
  rw[hl,O];exact run_enterLoop_outer fn a.tmps ps.toArray assign body
 refine⟨l,[ND w.heap.size],(w.alloc (.deferred (some []))).alloc (.loop r),⟨.fn (.func f) a6.toArray,(a5++[gG (.yield l) #[] #[]]).toArray⟩,(w.alloc (.deferred (some []))).alloc (.loop r),f,(a5++[gG (.yield l) #[] #[]]++a6).toArray,(w.alloc (.deferred (some []))).alloc (.loop r),ah,?_,fun _ _=>trivial,?_,fun h=>by simp[Fence.wide]at h,callsIn_wide.2 ?_⟩
 ·have he:a.eval (.const (.func (.yield l) #[] #[]))= .func (.yield l) #[] #[]:=rfl;simp[resolve,ha.eval hg,Deferred.ofValue,he]
 ·have h:=NI a9.1 (a5++[gG (.yield l) #[] #[]]++a6).toArray ((w.alloc (.deferred (some []))).alloc (.loop r));simpa[invoke]using h
 refine(ag.2 _ A).mono ?_;rintro _ w' ⟨I',H',ae,rfl,aq⟩;have a4:=hst1.call ae;have a1:=ae.le;have a7:Has { a with defers:=[ND w.heap.size]++a.defers } cx.n e (ND w.heap.size::cx.ds):=⟨ha.size,by simp[ha.defs],ha.get⟩;rcases aq with⟨sE,ai,_,G,rfl,hY⟩|⟨c,G,rfl,hZ⟩
 ·refine⟨_,_,run_endLoop (a4.own _ (.head _)) (by rw[O];simp),?_⟩;have a8:=((a4.block (i:=0) (o':= .loop { r with state:= .exhausted }) rfl fF).sublist (dY _ _)).perm (H':=(w.heap.size,.deferred (some []))::(G++R)) bW.symm;have hp:r.pending=none:=by rw[O]
  rw[hp]at a8 ⊢;exact done w.heap.size sE I' G ai a1 hY _ _ a7 a8
 refine⟨_,_,run_endLoop (a4.own _ (.head _)) sI,?_⟩;have a8:=((a4.block (i:=0) (o':= .loop { { r with state:= .done,pending:=some c }with state:= .exhausted }) rfl fF).sublist (dY _ _)).perm (H':=(w.heap.size,.deferred (some []))::(G++R)) bW.symm;have hw:=left w.heap.size c I' G a1 hZ _ _ a7 a8;have hF:({ cx with ds:=ND w.heap.size::cx.ds }:Cx).F=Fence.wide:=Cx.wide hr;rw[hF]at hw;exact hw
end
section
variable {cx:Cx} {Q:Qt} {o:Oper} {e:Env} {I:Heap} {H:HL} {C:Ct} {S:World→Prop} {α:Type} [BEq α] [LawfulBEq α]
def XB (m since:Nat) (vis:ML α) (last:Nat):Obj:= .mapIter (some m) since (vis.map (·.2.2)).toArray last
omit [BEq α] [LawfulBEq α] in
theorem MW{T K E d m c:Nat}{x:Operand}{kv:α→Value}{l:ML α}(A:o.op= .range T x)(hd:o.dst=some d)(hn:fK d cx.n=true)(G:ev e x=some (.map (some m)))(N:cx.P.underlying T=some (.map K E))(O:yR (SS I H) m (zY kv l c))
 (k:∀b,cx.w0.heap.size≤b→C ((d,ptr b 0)::e) I ((b,XB m c ([]:ML α) c)::H)):GR cx Q o e I H C:=by
 intro _ Z a w h hs;unfold eP;have:(execOp a.eval o).run cx.P w= .ok (.value (ptr w.heap.size 0)) { w with heap:=w.heap.push (XB m c ([]:ML α) c) }:=by
  have hr:=run_range_map (P:=cx.P) w T K E m _ c N (O w hs.ss);simp only[execOp,A,h.eval G,aJ,hr,aQ,fG];rfl
 rw[this];simp only[cZ,hd];exact Z _ _ _ (k _ hs.size) _ _ (h.put hn) (hs.alloc _)
theorem OI{T K E d x}(A:o.op= .range T x)(hd:o.dst=some d)(hn:fK d cx.n=true)(G:ev e x=some (.map none))(N:cx.P.underlying T=some (.map K E))
 (k:∀b,cx.w0.heap.size≤b→C ((d,ptr b 0)::e) I ((b,.mapIter none 0 #[] 0)::H)):GR cx Q o e I H C:=by
 intro _ O a w h hs;unfold eP;have:(execOp a.eval o).run cx.P w= .ok (.value (ptr w.heap.size 0)) { w with heap:=w.heap.push (.mapIter none 0 #[] 0) }:=by
  have hr:=run_range_nilMap (P:=cx.P) w T K E N;simp only[execOp,A,h.eval G,aJ,hr,aQ,fG];rfl
 rw[this];simp only[cZ,hd];exact O _ _ _ (k _ hs.size) _ _ (h.put hn) (hs.alloc _)
theorem QD{d b x}(i:Nat)(A:o.op= .next x false)(hd:o.dst=some d)(hn:fK d cx.n=true)(G:ev e x=some (ptr b 0))(N:H[i]?=some (b,.mapIter none 0 #[] 0))
 (k:C ((d,.tuple #[.bool false])::e) I H):GR cx Q o e I H C:=by
 intro _ O a w h hs;unfold eP;have Z:=hs.own _ (dB N);have:(execOp a.eval o).run cx.P w= .ok (.value (.tuple #[.bool false])) w:=by
  simp only[execOp,A,h.eval G,Instr.next,getObj,aJ,Sem.run,Z,Result.andThen];rfl
 rw[this];simp only[cZ,hd];exact O _ _ _ k _ _ (h.put hn) hs
omit [BEq α] [LawfulBEq α] in
theorem OD{d b m A last c x kv l vis rest} i (ho:o.op= .next x false)(hd:o.dst=some d)(hn:fK d cx.n=true)(hx:ev e x=some (ptr b 0))(hH:H[i]?=some (b,XB m A vis last))(hm:yR (SS I H) m (zY kv l c))
 (a7:∀p∈l,p.2.2<A)(a9:A≤last)(aa:(l.map (·.2.2)).Nodup)(O:(vis++rest).Perm l)
 (k1:∀(p:α×Value×Nat) (r:ML α) (H':HL),rest.Perm (p::r)→(vis++[p]++r).Perm l→DZ H i (b,XB m A (vis++[p]) c) H'→C ((d,.tuple #[.bool true,kv p.1,p.2.1])::e) I H')
 (k0:rest=[]→C ((d,.tuple #[.bool false])::e) I H):GR cx Q o e I H C:=by
 intro _ hK a w ha hs;unfold eP;have hb:=hs.own _ (dB hH);have ab:=hm w hs.ss;have a8:=run_next_at (P:=cx.P) w o.type b m A last _ _ c hb ab (by
  intro y hy;simp only[aC]at hy;obtain⟨p,O,rfl⟩:=hy;exact a7 p O) a9
 have N:((vis++rest).map (·.2.2)).Nodup:=(O.map _).nodup_iff.2 aa;have a0:(execOp a.eval o).run cx.P w=((Instr.next (.pointer (some ⟨b,0,none⟩)) false o.type).run cx.P w).andThen fun v w'=> .ok (.value v) w':=by
  simp only[execOp,ho,ha.eval hx,aJ];rfl
 have a5:∀p:α×Value×Nat,p∈l→((vis.map (·.2.2)).toArray.contains p.2.2=true↔p∈vis):=fun p G=>by
  have ac:p∈vis++rest:=O.mem_iff.2 G;rw[Array.contains_iff_mem];simp only[dQ,aC];constructor
  ·rintro⟨q,hq,he⟩;rcases aH.1 ac with h|h
   ·exact h
   rw[aZ,bC]at N;exact absurd he (N.2.2 _ (aG hq) _ (aG h))
  exact fun h=>⟨p,h,rfl⟩
 rcases a8 with⟨h0,hr⟩|⟨en,ad,w1,ae,hr⟩
 ·rw[a0,hr];simp only[aQ,cZ,hd];refine hK _ _ _ (k0 ?_) _ _ (ha.put hn) hs;rcases rest with _|⟨p,r⟩
  ·rfl
  exfalso
  have G:p∈l:=O.mem_iff.1 (List.mem_append_right _ (.head _));have a2:p ∉ vis:=fun h=>by
   rw[aZ,bC]at N;exact N.2.2 _ (aG h) _ (aG (.head _)) rfl
  have:KO kv p∈leftOf (l.map (KO kv)).toArray (vis.map (·.2.2)).toArray:=by
   unfold leftOf;rw[fQ];refine⟨by simp only[dQ];exact aG G,?_⟩;have:=(not_congr (a5 p G)).2 a2;simp only[Bool.not_eq_true]at this;show(!gW _ p.2.2)=true;rw[this];rfl
  have h1:=Array.eq_empty_of_size_eq_zero h0;rw[h1]at this;simp at this
 rw[a0,hr];simp only[aQ,cZ,hd];have Z:en∈leftOf (l.map (KO kv)).toArray (vis.map (·.2.2)).toArray:=by simpa using ad
 unfold leftOf at Z;rw[fQ]at Z;obtain⟨a6,a3⟩:=Z;simp only[dQ,aC]at a6;obtain⟨p,G,rfl⟩:=a6;have a2:p ∉ vis:=fun h=>by
  have:=(a5 p G).2 h
  change (!gW _ p.2.2)=true at a3
  rw[this]at a3;cases a3
 have af:p∈rest:=(aH.1 (O.mem_iff.2 G)).resolve_left a2;obtain⟨r1,r2,ag⟩:=fH af;have a1:rest.Perm (p::(r1++r2)):=by rw[ag];exact bW
 have a4:(vis++[p]++(r1++r2)).Perm l:=by
  refine List.Perm.trans ?_ O;rw[bD];exact List.Perm.append_left _ a1.symm
 have hset:DZ H i (b,XB m A (vis++[p]) c) (H.set i (b,XB m A (vis++[p]) c)):=⟨(bM.1 hH).1,rfl⟩;have hk:=k1 p (r1++r2) _ a1 a4 hset;have ah:St cx.w0 cx.D cx.I0 I (H.set i (b,XB m A (vis++[p]) c)) (ChangeMaps.setBlock w1 b (.mapIter (some m) A ((vis.map (·.2.2)).toArray.push p.2.2) c)):=by
  have he:(.mapIter (some m) A ((vis.map (·.2.2)).toArray.push p.2.2) c:Obj)=XB m A (vis++[p]) c:=by simp[XB]
  rw[show(KO kv p).born=p.2.2 from rfl]at *;rw[he];rcases ae with rfl|rfl
  ·exact hs.block hH hset
  exact(hs.drewN (w.drawn+1)).block hH hset
 exact hK _ _ _ hk _ _ (ha.put hn) ah
omit [LawfulBEq α] in
theorem MF{T K E m x}{kv:α→Value}{a z}{h:Value}(O:o.op= .lookup T m x false)(Q:ev e m=some (.map none))(Z:ev e x=some h)(A:h=kv a)(hT:cx.P.underlying T=some (.map K E))(G:GU cx.P K kv)(hz:∀w,(zeroValue E).run cx.P w= .ok z w):CW cx o e S z:=by
 intro w0 w N _;subst A;have h1:=G.1 a [] w;have h2:(Instr.findKey K (kv a) []).run cx.P w= .ok none w:=h1;simp[execOp,O,N.eval Q,N.eval Z,Instr.lookup,run_underlying hT,G.2.1,h2,hz]
omit [BEq α] [LawfulBEq α] in
theorem PG{x:Operand}{T K E b c:Nat}{kv:α→Value}{l:ML α}(A:o.op= .call ⟨.builtin .len,#[x],#[T]⟩)(G:ev e x=some (.map (some b)))(N:cx.P.underlying T=some (.map K E))(O:yR S b (zY kv l c)):CW cx o e S (i64 (l.length:Int)):=by
 intro a w Q hs;have h:=O w hs;simp[execOp,A,resolve,invoke,builtin,iD,Q.eval G,run_underlying N,goInt,getObj,Sem.run,h,zY]
theorem b0o{x T K E}(h:o.op= .call ⟨.builtin .len,#[x],#[T]⟩)(A:ev e x=some (.map none))(G:cx.P.underlying T=some (.map K E)):CW cx o e S (i64 0):=by
 intro a w N _;simp[execOp,h,resolve,invoke,builtin,iD,N.eval A,run_underlying G,goInt]
end
section
variable {P:Program} {K i:TypeId} {f0 f1:Field}
theorem YX{xs t off v w}(h:∀w,(isAgg t).run P w= .ok false w)(A:xs[off]?=some v):(part t xs off).run P w= .ok v w:=by
 simp[part,h,A]
theorem UH(G:P.underlying K=some (.struct #[f0,f1]))(O:P.stoodInHeld K=false)(Q:f0.name≠ "_")(Z:f1.name≠ "_")(o0:f0.offset=0)(o1:f1.offset=1)(a0:∀w,(isAgg f0.type).run P w= .ok false w)(a1:∀w,(isAgg f1.type).run P w= .ok false w)
 {x0 x1 y0 y1 h A} w (e0:∀d w,(aV (d+1) f0.type x0 y0).run P w= .ok h w)(N:∀d w,(aV (d+1) f1.type x1 y1).run P w= .ok A w):∀d,(aV (d+2) K (.agg #[x0,x1]) (.agg #[y0,y1])).run P w= .ok (h && A) w:=by
 intro d;have hf:P.fieldsOf K= #[f0,f1]:=by simp[fU,G]
 rw[run_equalIn_struct w (d+1) K _ _ (by rw[hf];exact G) O,hf];have p0:∀(a b:Value) w,(part f0.type #[a,b] f0.offset).run P w= .ok a w:=fun a b w=>YX a0 (by rw[o0];rfl);have p1:∀(a b:Value) w,(part f1.type #[a,b] f1.offset).run P w= .ok b w:=fun a b w=>YX a1 (by rw[o1];rfl);simp only[Op.eqFields,Q,Z,ne_eq,not_false_eq_true,if_true,aJ,p0,p1,e0,N,aQ];cases h
 ·simp
 cases A<;>simp[aJ,p1,N]
theorem a1G(G:P.underlying K=some (.struct #[f0,f1]))(N:f0.name≠ "_")(O:f1.name≠ "_")(Q:f0.offset=0)(Z:f1.offset=1)(a0:∀w,(isAgg f0.type).run P w= .ok false w)(a1:∀w,(isAgg f1.type).run P w= .ok false w)
 {x0 x1} b w (e0:∀d w,(aF b (d+1) f0.type x0).run P w= .ok () w)(e1:∀d w,(aF b (d+1) f1.type x1).run P w= .ok () w):∀d,(aF b (d+2) K (.agg #[x0,x1])).run P w= .ok () w:=by
 intro d;have p0:∀w,(part f0.type #[x0,x1] f0.offset).run P w= .ok x0 w:=fun w=>YX a0 (by rw[Q];rfl);have p1:∀w,(part f1.type #[x0,x1] f1.offset).run P w= .ok x1 w:=fun w=>YX a1 (by rw[Z];rfl);have h:=e0 d;have A:=e1 d;generalize hc:aF b (d+1)=ck at h A;rw[show d+2=(d+1)+1 from rfl,aF];rw[hc];simp[aJ,run_underlying G,N,O,p0,p1,h,A]
theorem a1m{b t k}(h:P.underlying t=some (.int k)) a d w:(aF b (d+1) t (.int k a)).run P w= .ok () w:=by simp[aF,run_underlying h]
theorem GU.b6f(O:P.underlying K=some (.struct #[f0,f1]))(hp:P.stoodInHeld K=false)(Q:f0.name≠ "_")(Z:f1.name≠ "_")(o0:f0.offset=0)(o1:f1.offset=1)(t0:f0.type=i)(A:f1.type=i)(G:P.underlying i=some (.int .i64))(N:∀w,(isAgg i).run P w= .ok false w):
 GU P K (fun a:Int×Int=> .agg #[i64 a.1,i64 a.2]):=by
 subst t0;refine gI O (fun a b=>rfl) (fun a b w=>?_) (fun b a w=>?_) (fun a=>?_)
 ·have h:=UH O hp Q Z o0 o1 N (A▸N) (x0:=i64 a.1) (x1:=i64 a.2) (y0:=i64 b.1) (y1:=i64 b.2) w (fun d w=>run_equalIn_int w d _ .i64 .i64 a.1 b.1 G) (fun d w=>run_equalIn_int w d _ .i64 .i64 a.2 b.2 (A▸G)) 9998;exact h
 ·exact a1G O Q Z o0 o1 N (A▸N) b w (fun d w=>a1m G _ d w) (fun d w=>a1m (A▸G) _ d w) 9998
 show bG (9999+1) _ _=true;simp[bG]
end
section
variable {P:Program} {K i:TypeId} {f0 f1:Field}
theorem a3W{b t}(h:P.underlying t=some .string) a d w:(aF b (d+1) t (str a)).run P w= .ok () w:=by simp[aF,run_underlying h]
theorem a1h{t}(A:P.underlying t=some .string) a b d w:(aV (d+1) t (str a) (str b)).run P w= .ok (a == b) w:=by
 have h:((⟨a.toArray⟩:ByteArray) == ⟨b.toArray⟩)=(a == b):=by
  show(a.toArray == b.toArray)=(a == b);simp
 simp[aV,run_underlying A,str,h]
theorem GU.c4V(O:P.underlying K=some (.struct #[f0,f1]))(hp:P.stoodInHeld K=false)(Q:f0.name≠ "_")(Z:f1.name≠ "_")(o0:f0.offset=0)(o1:f1.offset=1)(t0:f0.type=i)(A:f1.type=i)(G:P.underlying i=some .string)(N:∀w,(isAgg i).run P w= .ok false w):
 GU P K (fun a:List UInt8×List UInt8=> .agg #[str a.1,str a.2]):=by
 subst t0;refine gI O (fun a b=>rfl) (fun a b w=>?_) (fun b a w=>?_) (fun a=>?_)
 ·have h:=UH O hp Q Z o0 o1 N (A▸N) (x0:=str a.1) (x1:=str a.2) (y0:=str b.1) (y1:=str b.2) w (fun d w=>a1h G a.1 b.1 d w) (fun d w=>a1h (A▸G) a.2 b.2 d w) 9998;exact h
 ·exact a1G O Q Z o0 o1 N (A▸N) b w (fun d w=>a3W G _ d w) (fun d w=>a3W (A▸G) _ d w) 9998
 show bG (9999+1) _ _=true;have h:=fun x n=>a0u x n;simp[bG,h]
end
section
variable {P:Program} {K L i s:TypeId} {f0 f1 g0 g1:Field}
theorem b8D{xs ys t off n w}(h:∀w,(isAgg t).run P w= .ok true w)(hs:∀w,(sizeOf t).run P w= .ok n w)(A:xs.extract off (off+n)=ys):(part t xs off).run P w= .ok (.agg ys) w:=by
 simp[part,h,hs,A]
theorem GU.c3W(O:P.underlying K=some (.struct #[f0,f1]))(hp:P.stoodInHeld K=false)(n0:f0.name≠ "_")(n1:f1.name≠ "_")(o0:f0.offset=0)(o1:f1.offset=1)(t0:f0.type=s)(Q:f1.type=L)(hs:P.underlying s=some .string)(a2:∀w,(isAgg s).run P w= .ok false w)
 (hL:P.underlying L=some (.struct #[g0,g1]))(a3:P.stoodInHeld L=false)(m0:g0.name≠ "_")(m1:g1.name≠ "_")(q0:g0.offset=0)(q1:g1.offset=1)(r0:g0.type=i)(Z:g1.type=i)(hi:P.underlying i=some (.int .i64))(A:∀w,(isAgg i).run P w= .ok false w)(a4:∀w,(isAgg L).run P w= .ok true w)(a5:∀w,(sizeOf L).run P w= .ok 2 w):
 GU P K (fun a:List UInt8×(Int×Int)=> .agg #[str a.1,i64 a.2.1,i64 a.2.2]):=by
 subst r0;have hf:P.fieldsOf K= #[f0,f1]:=by simp[fU,O]
 have p0:∀(x y z:Value) w,(part f0.type #[x,y,z] f0.offset).run P w= .ok x w:=fun x y z w=>YX (by rw[t0];exact a2) (by rw[o0];rfl);have p1:∀(x y z:Value) w,(part f1.type #[x,y,z] f1.offset).run P w= .ok (.agg #[y,z]) w:=fun x y z w=>b8D (by rw[Q];exact a4) (by rw[Q];exact a5) (by rw[o1];rfl);refine gI O (fun a b=>rfl) (fun a b w=>?_) (fun b a w=>?_) (fun a=>?_)
 ·have N:∀d w,(aV (d+1) f0.type (str a.1) (str b.1)).run P w= .ok (a.1 == b.1) w:=fun d w=>by rw[t0];exact a1h hs a.1 b.1 d w
  have G:∀d w,(aV (d+2) f1.type (.agg #[i64 a.2.1,i64 a.2.2]) (.agg #[i64 b.2.1,i64 b.2.2])).run P w= .ok ((a.2.1 == b.2.1) && (a.2.2 == b.2.2)) w:=fun d w=>by
   rw[Q];exact UH hL a3 m0 m1 q0 q1 A (Z▸A) (x0:=i64 a.2.1) (x1:=i64 a.2.2) (y0:=i64 b.2.1) (y1:=i64 b.2.2) w (fun d w=>run_equalIn_int w d _ .i64 .i64 a.2.1 b.2.1 hi) (fun d w=>run_equalIn_int w d _ .i64 .i64 a.2.2 b.2.2 (Z▸hi)) d
  have key:∀b0 b1:Bool,(∀d w,(aV (d+1) f0.type (str a.1) (str b.1)).run P w= .ok b0 w)→(∀d w,(aV (d+2) f1.type (.agg #[i64 a.2.1,i64 a.2.2]) (.agg #[i64 b.2.1,i64 b.2.2])).run P w= .ok b1 w)→(aV (9997+3) K (.agg #[str a.1,i64 a.2.1,i64 a.2.2]) (.agg #[str b.1,i64 b.2.1,i64 b.2.2])).run P w= .ok (b0 && b1) w:=fun b0 b1 N G=>by
   rw[run_equalIn_struct w (9997+2) K _ _ (by rw[hf];exact O) hp,hf];simp only[Op.eqFields,n0,n1,ne_eq,not_false_eq_true,if_true,aJ,p0,p1,N,G,aQ];cases b0
   ·simp
   cases b1<;>simp[aJ,p1,G]
  exact key _ _ N G
 ·have N:∀d w,(aF b (d+1) f0.type (str a.1)).run P w= .ok () w:=fun d w=>by rw[t0];exact a3W hs _ d w
  have G:∀d w,(aF b (d+2) f1.type (.agg #[i64 a.2.1,i64 a.2.2])).run P w= .ok () w:=fun d w=>by
   rw[Q];exact a1G hL m0 m1 q0 q1 A (Z▸A) b w (fun d w=>a1m hi _ d w) (fun d w=>a1m (Z▸hi) _ d w) d
  have a0:=N 9998;have a1:=G 9997;show(aF b (9999+1) K (.agg #[str a.1,i64 a.2.1,i64 a.2.2])).run P w=_;generalize hc:aF b (9998+1)=ck at a0 a1;rw[aF];rw[show(9999:Nat)=9998+1 from rfl,hc];simp[aJ,run_underlying O,n0,n1,p0,p1,a0,a1]
 show bG (9998+2) _ _=true;have h:=fun x n=>a0u x n;simp[bG,h]
end
end Go.Sx
namespace Go.Sx
open Go Go.Sort Go.Proofs
section
variable {α:Type} [Inhabited α] {enc:α→Value}
omit [Inhabited α] in
theorem a7v{l:List α}{sp}{k:Nat}{x}(h:l[k]?=some x):(l.map enc++sp)[k]?=some (enc x):=by
 obtain⟨A,hg⟩:=bM.1 h;rw[List.getElem?_append_left (by simpa using A),List.getElem?_map,h];rfl
theorem a7e{w b T}{l:List α}{sp}(h:w.heap[b]?=some (yZ T (l.map enc++sp))):Holds enc w b 0 l.toArray:=fun j A=>by
 have G:j<l.length:=by simpa using A
 have N:(l.map enc++sp)[j]?=some (enc l[j]):=a7v (bQ G);have O:l.toArray[j]! =l[j]:=by rw[getElem!_pos _ j A];simp
 refine⟨?_,?_⟩
 ·rw[O];simp only[World.cell?,h,yZ,Nat.zero_add];simpa using N
 simp only[World.frozen?,h,yZ];simp
theorem c0t{l l':List α}{sp}(A:l'.length=l.length):putCells enc 0 l'.toArray (l.map enc++sp).toArray=(l'.map enc++sp).toArray:=by
 apply Array.ext_getElem?
 intro k;simp only[putCells,Array.getElem?_mapIdx,List.getElem?_toArray,dN,Nat.zero_le,true_and,Nat.zero_add,Nat.sub_zero];rcases bF k l.length with h|h
 ·have G:(l.map enc++sp)[k]?=some (enc l[k]):=a7v (bQ h);have N:(l'.map enc++sp)[k]?=some (enc (l'[k]'oM)):=a7v (bQ oM);have O:l'.toArray[k]! =l'[k]'oM:=by rw[getElem!_pos _ k (by simpa using(oM:k<l'.length))];simp
  rw[G,N,dD,zG oM,O]
 rw[dH (by simpa using h),dH (by simp;omega),gJ,gJ,A];cases sp[k-l.length]? with
 |none=>rfl
 |some v=>rw[dD,zF oM]
theorem St.c4h{w I b T}{l l':List α}{sp} n os (hr:Ready I [(b,yZ T (l.map enc++sp))] w)(hl:l'.length=l.length):
 St w [b] I I [(b,yZ T (l'.map enc++sp))] (grow (putRow enc (bT w n) b 0 l'.toArray) os):=by
 obtain⟨r1,r2,_,Z⟩:=hr;have hb:=r2 _ (aB.2 rfl);have N:∀{c:Nat} {o':Obj},w.heap[c]?=some o'→c<w.heap.size:=fun {c o'} h=>by
  rcases bF c w.heap.size with O|O
  ·exact O
  simp[aS O]at h
 have a1:(putRow enc (bT w n) b 0 l'.toArray).heap.size=w.heap.size:=by simp[putRow,mapBlock,bT]
 have A:∀c,c<w.heap.size→c≠b→(grow (putRow enc (bT w n) b 0 l'.toArray) os).heap[c]?=w.heap[c]?:=fun c h a0=>by
  simp only[grow];rw[dI oM];simp only[putRow,mapBlock,bT,eU,zF (fJ a0)]
 have Q:(grow (putRow enc (bT w n) b 0 l'.toArray) os).heap[b]?=some (yZ T (l'.map enc++sp)):=by
  have a2:=N hb;simp only[grow];rw[dI oM];simp only[putRow,mapBlock,bT,eU,if_true];rw[hb];simp only[dD,onCells,yZ];rw[c0t hl]
 refine⟨rfl,rfl,rfl,?_,?_,?_,?_,sI,?_,?_,fun _ _=>rfl,eH _,a1J⟩
 ·simp only[grow,Array.size_append];omega
 ·intro c h hd;exact A c h (by simpa using hd)
 ·intro c o h;have h1:=r1 c o h;refine(A c (N h1) ?_).trans h1;rintro rfl;have:=Z _ (aB.2 rfl);rw[this]at h;cases h
 ·intro p G;rw[aB.1 G];exact Q
 ·intro p G;rw[aB.1 G];exact Z (b,yZ T (l.map enc++sp)) (aB.2 rfl)
 intro p G;rw[aB.1 G];exact .inl (.head _)
end
end Go.Sx
namespace Go.Sx
open Go
def a0h:HL→Heap→Heap
 |[],I=>I
 |(b,o)::r,I=>hput b o (a0h r I)
theorem a2Z:∀{H:HL} {I:Heap},(H.map (·.1)).Nodup→∀p∈H,a0h H I p.1=some p.2
 |[],_,_,p,hp=>by cases hp
 |(b,o)::r,I,hn,p,hp=>by
  rw[aT,dV]at hn;unfold a0h hput;rcases aA.1 hp with e|e
  ·rw[e];simp
  have:p.1≠b:=fun g=>hn.1 (by rw[←g];exact aG (f:=(·.1)) e);rw[zF this];exact a2Z hn.2 p e
theorem ZE:∀{H:HL} {I:Heap} {b:Nat},b ∉ H.map (·.1)→a0h H I b=I b
 |[],_,_,_=>rfl
 |(c,o)::r,I,b,h=>by
  rw[aT,aA,not_or]at h;unfold a0h hput;rw[zF h.1];exact ZE h.2
theorem c0G{H I}(hd:∀p∈H,I p.1=none):Le I (a0h H I):=fun b o A=>by
 by_cases h:b∈H.map (·.1)
 ·obtain⟨p,G,rfl⟩:=aC.1 h;rw[hd p G]at A;cases A
 rw[ZE h];exact A
def hless (H:HL) (J:Heap):Heap:=fun b=>if b∈H.map (·.1)then none else J b
theorem b7p{H J b}(h:b ∉ H.map (·.1)):hless H J b=J b:=zF h
theorem yS.borrow{P f args I B}{O:Ending→Heap→HL→Prop}(h:yS P f args (a0h B I) [] O):
 yS P f args I B (fun e I' H'=>∃J K,O e J K∧H'=B++K∧I'=hless B J∧∀p∈B,J p.1=some p.2):=by
 refine⟨h.1,fun w hw=>?_⟩;obtain⟨r1,r2,Q,r4⟩:=hw;have hr:Ready (a0h B I) [] w:=by
  unfold Ready;refine⟨fun b o G=>?_,(fun p A=>by cases A),List.Pairwise.nil,(fun p A=>by cases A)⟩
  by_cases N:b∈B.map (·.1)
  ·obtain⟨p,A,rfl⟩:=aC.1 N;rw[a2Z Q p A]at G;cases G;exact r2 p A
  rw[ZE N]at G;exact r1 b o G
 refine(h.2 w hr).mono ?_;rintro e w' ⟨J,K,hs,A⟩;have Z:∀p∈B,J p.1=some p.2:=fun p A=>hs.le _ _ (a2Z Q p A);have a1:∀p∈B,p.1<w.heap.size:=fun p A=>by
  have:=r2 p A;rcases bF p.1 w.heap.size with g|g
  ·exact g
  rw[aS g]at this;cases this
 have a0:∀q∈K,q.1 ∉ B.map (·.1):=fun q hq N=>by
  obtain⟨p,A,he⟩:=aC.1 N;have:=hs.dis q hq;rw[←he,Z p A]at this;cases this
 refine⟨hless B J,B++K,⟨hs.os,hs.tape,hs.output,hs.size,fun b G _=>hs.frm b G sI,fun b o G=>?_,fun p A=>?_,?_,fun p A=>?_,fun p A=>?_,fun b G=>?_,fun b o G=>?_,a1J⟩,J,K,A,rfl,rfl,Z⟩
 ·unfold hless at G
  split at G
  ·cases G
  exact hs.sub b o G
 ·rcases aH.1 A with g|g
  ·exact hs.sub _ _ (Z p g)
  exact hs.own p g
 ·rw[aZ,bC];refine⟨Q,hs.nodup,fun x hx y hy he=>?_⟩;obtain⟨q,hq,rfl⟩:=aC.1 hy;exact a0 q hq (he▸hx)
 ·unfold hless
  split
  ·rfl
  rename_i N
  rcases aH.1 A with g|g
  ·exact absurd (aG g) N
  exact hs.dis p g
 ·rcases aH.1 A with g|g
  ·exact .inl (aG g)
  rcases hs.new p g with k|k
  ·cases k
  exact .inr k
 ·unfold hless
  split
  ·rename_i N
   obtain⟨p,A,rfl⟩:=aC.1 N;exact(r4 p A).symm
  rename_i N
  rw[hs.ifr b G,ZE N]
 have N:b ∉ B.map (·.1):=fun N=>by
  obtain⟨p,A,rfl⟩:=aC.1 N;rw[r4 p A]at G;cases G
 rw[b7p N];exact hs.le b o (by rw[ZE N];exact G)
theorem yS.b7l{P f args I H}{A:Ending→Heap→HL→Prop}(N:Enters P f)(h:(H.map (·.1)).Nodup→(∀p∈H,I p.1=none)→yS P f args I H A):yS P f args I H A:=
 ⟨N,fun w G=>(h G.2.2.1 G.2.2.2).2 w G⟩
section
variable {cx:Cx} {Q:Qt} {e:Env} {I:Heap} {R:HL}
theorem a3V{X:Heap→HL→Prop}{base}(A:∀I b o R,base≤b→(∀h,Le I h→h b=some o→X h R)→X I ((b,o)::R)):∀(B:HL) (I:Heap),(∀p∈B,base≤p.1)→(∀h,Le I h→(∀p∈B,h p.1=some p.2)→X h R)→X I (B++R)
 |[],I,_,k=>k I (eH _) fun p A=>by cases A
 |(b,o)::r,I,hb,k=>A I b o (r++R) (hb _ (.head _)) fun h N Q=>a3V A r h (fun p A=>hb p (.tail _ A)) fun Z G O=>k Z (N.trans G) fun p A=>by
  rcases aA.1 A with g|g
  ·rw[g];exact G _ _ Q
  exact O p g
theorem J.persists{h l} B (A:∀p∈B,cx.w0.heap.size≤p.1)(k:∀G,Le I G→(∀p∈B,G p.1=some p.2)→J cx Q h l e G R):J cx Q h l e I (B++R):=
 a3V (X:=fun I H=>J cx Q h l e I H) (fun _ _ _ _ A k=>J.persist A k) B I A k
end
def RH {α:Type} (T:TypeId) (f:α→List Value) (I:Heap) (l:List α) (v:Value):Prop:=
 ∃p c,v= .slice p l.length c∧l.length≤c∧(l≠[]→∃b sp,p=some ⟨b,0,none⟩∧I b=some (yZ T (l.flatMap f++sp)))
theorem RH.mono{α:Type}{T:TypeId}{f:α→List Value}{I A:Heap}{l:List α}{v:Value}(h:RH T f I l v)(G:Le I A):RH T f A l v:=
 let ⟨p,c,N,O,Q⟩:=h;⟨p,c,N,O,fun hn=>let ⟨b,sp,Z,h5⟩:=Q hn;⟨b,sp,Z,G _ _ h5⟩⟩
theorem RH.row{α:Type}{T:TypeId}{f:α→List Value}{I:Heap}{l:List α}{v:Value}(h:RH T f I l v):zN f I l v:=
 let ⟨p,c,A,G,N⟩:=h;⟨p,c,A,G,fun hn=>let ⟨b,sp,O,Q⟩:=N hn;⟨b,0,_,T,_,sp,O,Q,rfl⟩⟩
theorem RH.nil{α:Type}{T f I}:RH T f I ([]:List α) (.slice none 0 0):=⟨none,0,rfl,dZ _,fun h=>absurd rfl h⟩
section
variable {cx:Cx} {Q:Qt} {e:Env} {I:Heap} {R:HL} {T:TypeId} {α:Type} {l:List α} {f:α→List Value} {sz n base:Nat} {g:Gs}
theorem c0V{X:Heap→HL→Prop}(hf:∀x,(f x).length=sz)(A:0<sz)(hg:BM base sz n (l.flatMap f) g)(hn:n=l.length)(O:∀b o,base≤b→(∀h,Le I h→h b=some o→X h R)→X I ((b,o)::R))(k:∀h,Le I h→RH T f h l (gV n g)→X h R):X I (gH T (l.flatMap f) g++R):=by
 subst hn;cases g with
 |none=>
  obtain⟨G,Q⟩:=hg;have:l=[]:=aX.1 G;subst this;exact k I (eH _) RH.nil
 |some q=>
  obtain⟨b,c,sp⟩:=q;obtain⟨G,Q,Z⟩:=hg;have hc:l.length≤c:=by
   rw[BP hf]at Z;exact dJ (oM:l.length*sz≤c*sz) A
  exact O b _ G fun h N hb=>k h N ⟨_,c,rfl,hc,fun _=>⟨b,sp,rfl,hb⟩⟩
theorem Cj.c4Z{c}(hf:∀x,(f x).length=sz)(h:0<sz)(hg:BM cx.w0.heap.size sz n (l.flatMap f) g)(hn:n=l.length)(k:∀A,Le I A→RH T f A l (gV n g)→Cj cx Q c e A R):Cj cx Q c e I (gH T (l.flatMap f) g++R):=
 c0V (X:=fun I H=>Cj cx Q c e I H) hf h hg hn (fun _ _ G k=>Cj.persist G k) k
end
theorem St.c5m{w0 w D A I0 I H}(h:St w0 D I0 I H w)(hd:∀b,b∈D↔b∈A):St w0 A I0 I H w:=
 ⟨h.os,h.tape,h.output,h.size,fun b G hn=>h.frm b G (fun g=>hn ((hd b).1 g)),h.sub,h.own,h.nodup,h.dis,fun p N=>(h.new p N).imp (hd p.1).1 id,h.ifr,h.le,h.drw⟩
theorem yS.perm{P f args I H H1}{A:Ending→Heap→HL→Prop}(G:H1.Perm H)(h:yS P f args I H1 A):yS P f args I H A:=
 ⟨h.1,fun w N=>by
  obtain⟨O,Q,Z,r4⟩:=N;have hr:Ready I H1 w:=⟨O,fun p g=>Q p (G.mem_iff.1 g),(G.map _).nodup_iff.2 Z,fun p g=>r4 p (G.mem_iff.1 g)⟩;refine(h.2 w hr).mono ?_;rintro e w' ⟨I',K,hk,hq⟩;exact⟨I',K,hk.c5m (fun b=>(G.map _).mem_iff),hq⟩⟩
theorem yS.leave{P f args I H}{N A:Ending→Heap→HL→Prop}(h:yS P f args I H N)(Q:∀e G H',Le I G→N e G H'→∃K S,(K++S).Perm H'∧A e G K):yS P f args I H A:=
 ⟨h.1,fun w Z=>(h.2 w Z).mono fun e w' ⟨G,H',hs,hq⟩=>by
  obtain⟨K,S,hk,O⟩:=Q e G H' hs.le hq;exact⟨G,K,(hs.perm hk).sublist (List.sublist_append_left K S),O⟩⟩
section
variable {cx:Cx} {Q:Qt} {o:Oper} {e:Env} {I:Heap} {H:HL} {C:Ct}
theorem FB{H1} R {d f fo xs ts Z a0 vs}{G:Ending→Heap→HL→Prop}(hH:H=R++H1)
 (ho:o.op= .call ⟨.value fo,xs.toArray,ts⟩)(hd:o.dst=some d)(hn:fK d cx.n=true)(hf:ev e fo=some (.func (.func f) Z.toArray a0.toArray))(hx:evs e xs=some vs)
 (hs:yS cx.P f (Z++vs++a0) I H1 G)
 (k:∀v A h,Le I A→G (.returned v) A h→C ((d,v)::e) A (R++h))
 (kp:∀O A h,Le I A→G (.panicked O) A h→Ej cx Q (.panic O) e A (R++h))
 (ko:∀A h,¬G .outgrown A h):GR cx Q o e I H C:=by
 subst hH;refine GR.perm (H':=H1++R) dA fun K hK=>?_
 exact yT (C:=fun e' A H'=>∃h,H'=h++R∧C e' A (R++h)) ho hd hn hf hx hs (fun v A h N hp=>⟨h,rfl,k v A h N hp⟩) (fun O A h N hp=>Ej.perm dA (kp O A h N hp)) ko K
  fun e' A H' ⟨h,hH,hC⟩ a w ha hs=>hK e' A (R++h) hC a w ha (by subst hH;exact hs.perm dA)
end
section
variable {cx:Cx} {Q:Qt} {o:Oper} {e:Env} {I:Heap} {H:HL} {C:Ct}
theorem b0D{α:Type}[BEq α]{kv:α→Value}{a}{T U:Nat}{m x:Operand}{K E}{A:Value}(O:o.op= .call ⟨.builtin .delete,#[m,x],#[T,U]⟩)(hd:o.dst=none)(Z:ev e m=some (.map none))(hx:ev e x=some A)(G:A=kv a)(hT:cx.P.underlying T=some (.map K E))(hK:GU cx.P K kv)(kk:C e I H):GR cx Q o e I H C:=by
 intro _ N w0 w h hs;unfold eP;subst G;have:(execOp w0.eval o).run cx.P w= .ok (.value (.tuple #[])) w:=by
  simp[execOp,O,resolve,invoke,builtin,h.eval Z,h.eval hx,Builtin.delete_,run_underlying hT,hK.2.1]
 rw[this];simp only[cZ,hd];exact N _ _ _ kk _ _ h.VY hs
end
def a2S (a:Option Addr) (c j sz:Nat):Option Addr:=if c=j then a else a.map (·.add (j*sz))
section
variable {cx:Cx} {o:Oper} {e:Env} {S:World→Prop}
theorem b8J{x y z}{T E n c sz j k:Nat}{a kl N A}(O:o.op= .slice T x (some y) (some z) none)(Q:ev e x=some (.slice a n c))(Z:ev e y=some (.int kl (j:Int)))(hz:ev e z=some (.int N A))(hu:cx.P.underlying T=some (.slice E))(G:∀w,(sizeOf E).run cx.P w= .ok sz w)(hk:A=(k:Int))(hj:j≤k)(hc:k≤c):
 CW cx o e S (.slice (a2S a c j sz) (k-j) (c-j)):=by
 intro w0 w h _;subst hk;have h1:(k:Int)≤c:=oM;have h2:(j:Int)≤k:=oM;unfold a2S;simp[execOp,O,h.eval Q,h.eval Z,h.eval hz,dK,eF,run_underlying hu,bU,run_sliceBound,h1,h2,G]
theorem PD{x y}{T E n c sz j:Nat}{a kl h}(O:o.op= .slice T x (some y) none none)(Q:ev e x=some (.slice a n c))(Z:ev e y=some (.int kl h))(hu:cx.P.underlying T=some (.slice E))(A:∀w,(sizeOf E).run cx.P w= .ok sz w)(G:h=(j:Int))(hj:j≤n)(hc:n≤c):
 CW cx o e S (.slice (a2S a c j sz) (n-j) (c-j)):=by
 intro w0 w N _;subst G;have h1:(j:Int)≤n:=oM;unfold a2S;simp[execOp,O,N.eval Q,N.eval Z,dK,eF,run_underlying hu,bU,run_sliceBound,h1,A]
theorem JI{x z}{T E n c sz k:Nat}{a G h}(N:o.op= .slice T x none (some z) none)(O:ev e x=some (.slice a n c))(hz:ev e z=some (.int G h))(Q:cx.P.underlying T=some (.slice E))(A:∀w,(sizeOf E).run cx.P w= .ok sz w)(Z:h=(k:Int))(hc:k≤c):
 CW cx o e S (.slice a k c):=by
 subst Z;exact a6T N O hz Q A hc
end
theorem a8r{α:Type}{f sz}(hf:∀x,(f x).length=sz):∀(l:List α) (j:Nat) (sp:List Value),j≤l.length→(l.flatMap f++sp).drop (j*sz)=(l.drop j).flatMap f++sp
 |l,0,sp,_=>sI
 |[],j+1,sp,h=>by simp at h
 |a::r,j+1,sp,h=>by
  rw[List.flatMap_cons,bD,show(j+1)*sz=(f a).length+j*sz by rw[hf,Nat.add_mul];omega,←gX,List.drop_left,List.drop_succ_cons];exact a8r hf r j sp (by simpa using h)
theorem zN.cut{α:Type}{f:α→List Value}{sz:Nat}(hf:∀x,(f x).length=sz){I l a n c}(h:zN f I l (.slice a n c)){j k:Nat}(hj:j≤k)(hk:k≤l.length):zN f I ((l.drop j).take (k-j)) (.slice (a2S a c j sz) (k-j) (c-j)):=by
 obtain⟨_,_,A,_,G⟩:=h;cases A;refine⟨_,c-j,by rw[fV,bY];congr 1;omega,by rw[fV,bY];omega,fun hn=>?_⟩;have a0:j<k:=by
  rcases bF j k with g|g
  ·exact g
  exact absurd (by rw[show k-j=0 by omega,List.take_zero]) hn
 have N:l≠[]:=fun e=>hn (by rw[e];simp);obtain⟨b,o,cs,t,fr,sp,O,Q,Z⟩:=G N;subst O;refine⟨b,o+j*sz,cs,t,fr,((l.drop j).drop (k-j)).flatMap f++sp,?_,Q,?_⟩
 ·unfold a2S;rw[zF oM,dD,Addr.add_lit]
 rw[←gX,Z,a8r hf l j sp oM,←bD,←List.flatMap_append,eX]
section
variable {cx:Cx} {Q:Qt} {o:Oper} {e:Env} {I:Heap} {H:HL} {C:Ct} {S:World→Prop}
theorem b9s{x T E b off n c sz t cs z} i (ho:o.op= .call ⟨.builtin .clear,#[x],#[T]⟩)(hd:o.dst=none)(hx:ev e x=some (.slice (some ⟨b,off,none⟩) n c))(hn:0<n)(hu:cx.P.underlying T=some (.slice E))(hz:∀w,(zeroValue E).run cx.P w= .ok z w)
 (O:z.cells.size=sz)(a3:0<sz)(Z:z.cells.toList.all gQ=true)(A:H[i]?=some (b,yZ t cs))(a2:off+n*sz≤cs.length)(k:∀vs H',vs.length=n*sz→DZ H i (b,yZ t (cs.take off++vs++cs.drop (off+n*sz))) H'→C e I H'):GR cx Q o e I H C:=by
 intro K hK a w ha hs;unfold eP;have hb:=hs.own _ (dB A);have h:(aI z.cells n).toList.length=n*sz:=by simp[aI,O]
 have G:∀v∈(aI z.cells n).toList,v.oneCell'=true:=fun v hv=>by
  simp only[aI,Array.toList_map,aC]at hv;obtain⟨j,_,rfl⟩:=hv;have a0:j % z.cells.size<z.cells.size:=Nat.mod_lt _ oM;rw[getElem!_pos z.cells _ a0];exact List.all_eq_true.1 Z _ sI
 have N:EW cs (off+0) (aI z.cells n).toList (cs.take off++(aI z.cells n).toList++cs.drop (off+n*sz)):=⟨by rw[h];omega,by rw[h,Nat.add_zero]⟩;have a1:=MZ (P:=cx.P) (t:=t) (aI z.cells n).toList 0 w cs hb (.inl rfl) (by rw[h];omega) G _ N;obtain⟨n,rfl⟩:∃m,n=m+1:=⟨n-1,oM⟩;have:(execOp a.eval o).run cx.P w= .ok (.value (.tuple #[])) (World.block w b (yZ t (cs.take off++(aI z.cells (n+1)).toList++cs.drop (off+(n+1)*sz)))):=by
  simp only[execOp,ho,resolve,invoke,builtin,Builtin.clear_,aJ,fG,aQ];simp[ha.eval hx,run_underlying hu,hz,a1,yZ,bD]
 rw[this];simp only[cZ,hd];have hset:DZ H i (b,yZ t (cs.take off++(aI z.cells (n+1)).toList++cs.drop (off+(n+1)*sz))) (H.set i (b,yZ t (cs.take off++(aI z.cells (n+1)).toList++cs.drop (off+(n+1)*sz)))):=⟨(bM.1 A).1,rfl⟩;exact hK _ _ _ (k _ _ h hset) _ _ ha.VY (hs.block A hset)
theorem a8Z{x y z}{T E n c sz k m:Nat}{a kl kh}(G:o.op= .slice T x none (some y) (some z))(N:ev e x=some (.slice a n c))(O:ev e y=some (.int kl (k:Int)))(hz:ev e z=some (.int kh (m:Int)))(Q:cx.P.underlying T=some (.slice E))(A:∀w,(sizeOf E).run cx.P w= .ok sz w)(a0:k≤m)(a1:m≤c):
 CW cx o e S (.slice a k m):=by
 intro w0 w h _;have Z:(k:Int)≤m:=oM;have h2:(m:Int)≤c:=oM;cases a with
 |none=>simp[execOp,G,h.eval N,h.eval O,h.eval hz,dK,eF,run_underlying Q,bU,run_sliceBound,Z,h2,A]
 |some q=>simp[execOp,G,h.eval N,h.eval O,h.eval hz,dK,eF,run_underlying Q,bU,run_sliceBound,Z,h2,A,Addr.add]
end
def PZ {α:Type} (T:TypeId) (f:α→List Value) (l:List α) (v:Value) (H:HL):Prop:=(l=[]∧v= .slice none 0 0∧H=[])∨∃b c sp,v= .slice (some ⟨b,0,none⟩) l.length c∧l.length≤c∧H=[(b,yZ T (l.flatMap f++sp))]
theorem PZ.c0x{α:Type}{T}{f:α→List Value}{sz base n:Nat}{l:List α}{g}(hf:∀x,(f x).length=sz)(h:0<sz)(hn:n=l.length)(hg:BM base sz n (l.flatMap f) g):PZ T f l (gV n g) (gH T (l.flatMap f) g):=by
 subst hn;cases g with
 |none=>
  obtain⟨A,G⟩:=hg;exact .inl ⟨aX.1 A,by rw[A];rfl,rfl⟩
 |some q=>
  obtain⟨b,c,sp⟩:=q;obtain⟨A,G,N⟩:=hg;have O:l.length≤c:=by
   rw[BP hf]at N;exact dJ (oM:l.length*sz≤c*sz) h
  exact .inr ⟨b,c,sp,rfl,O,rfl⟩
section
variable {cx:Cx} {Q:Qt} {e:Env} {I:Heap} {R H1:HL} {T:TypeId} {α:Type} {l:List α} {f:α→List Value} {v:Value}
theorem a8I{X:Heap→HL→Prop}{base}(h:PZ T f l v H1)(N:∀p∈H1,base≤p.1)(O:∀b o,base≤b→(∀A,Le I A→A b=some o→X A R)→X I ((b,o)::R))(k:∀A,Le I A→RH T f A l v→X A R):X I (H1++R):=by
 rcases h with⟨rfl,rfl,rfl⟩|⟨b,c,sp,rfl,Q,rfl⟩
 ·exact k I (eH _) RH.nil
 exact O b _ (N _ (.head _)) fun A G Z=>k A G ⟨_,c,rfl,Q,fun _=>⟨b,sp,rfl,Z⟩⟩
theorem J.a4y{A r}(h:PZ T f l v H1)(G:∀p∈H1,cx.w0.heap.size≤p.1)(k:∀N,Le I N→RH T f N l v→J cx Q A r e N R):J cx Q A r e I (H1++R):=a8I (X:=fun I H=>J cx Q A r e I H) h G (fun _ _ G k=>J.persist G k) k
end
end Go.Sx
namespace Go.Sx
open Go Go.RowKit
theorem yS.c4m{P f args I T sz n vals}(he:Enters P f)
 (h:∀w,(∀b o,I b=some o→w.heap[b]?=some o)→Calls P f args.toArray w fun e w'=>∃v',e= .returned v'∧w'.ownsRow w.heap.size T sz v' n vals∧v'≠ .slice none 0 0∧Below w.heap.size w w'):
 yS P f args I [] (fun e _ H'=>∃g,BM 0 sz n vals g∧e= .returned (gV n g)∧H'=gH T vals g):=by
 refine⟨he,fun w hw=>(h w hw.1).mono ?_⟩;rintro e w' ⟨v',rfl,N,a3,O⟩;obtain⟨r1,-,-,-⟩:=hw;have a1:∀{b:Nat} {o:Obj},I b=some o→b<w.heap.size:=fun {b o} Q=>by
  have:=r1 b o Q;rcases bF b w.heap.size with h'|h'
  ·exact h'
  rw[aS h']at this;cases this
 obtain⟨Z,N⟩:=N;obtain⟨A,a0,G,rfl,hA,hc,hn,-,a4,a5⟩:=N.resolve_left fun g=>a3 g.1;have a2:(.cells G T (0,0):Obj)=yZ T (vals++G.toList.drop (n*sz)):=by
  unfold yZ;rw[←a5,eX]
 rw[a2]at hc;have a6:St w [] I I [(A,yZ T (vals++G.toList.drop (n*sz)))] w':=
  ⟨O.os,O.tape,O.output,O.size,fun b Q _=>O.block b Q,fun b o Q=>by rw[O.block b (a1 Q)];exact r1 b o Q,fun p hp=>by rw[aB.1 hp];exact hc,sI,fun p hp=>by
   rw[aB.1 hp];cases hI:I A with
   |none=>rfl
   |some o=>have:=a1 hI;omega,fun p hp=>by rw[aB.1 hp];exact .inr hA,fun _ _=>rfl,eH _,a1J⟩
 refine⟨_,_,a6,some (A,a0,G.toList.drop (n*sz)),⟨Nat.zero_le _,Z,?_⟩,rfl,rfl⟩;have a7:n*sz≤a0*sz:=Nat.mul_le_mul_right _ hn;have h1:G.toList.length=a0*sz:=by rw[←a4];exact Array.length_toList
 rw[bY,h1,Z];omega
end Go.Sx
namespace Go.Proofs.YtdjkhllhakhjbaaGreatDoor
open Go Go.Sx
def XD (I:Heap) (l:List (List UInt8)) (v:Value):Prop:=∃p c,v= .slice p l.length c∧l.length≤c∧(l≠[]→∃b o cs t fr sp,p=some ⟨b,o,none⟩∧I b=some (.cells (List.toArray cs) t fr)∧cs.drop o=l.map str++sp)
theorem a5w{cs sp:List Value}{o}{l:List (List UInt8)}(h:cs.drop o=l.map str++sp){k x}(A:l[k]?=some x):cs[o+k]?=some (str x):=by
 rw[←List.getElem?_drop,h];exact JL A
theorem XD.of{I l v}(h:KA 9 I l v):XD I l v:=by
 rcases h with⟨rfl,rfl⟩|⟨b,c,sp,rfl,A,G⟩
 ·exact⟨none,0,rfl,dZ _,fun h=>absurd rfl h⟩
 exact⟨_,c,rfl,A,fun _=>⟨b,0,_,_,_,sp,rfl,G,rfl⟩⟩
end Go.Proofs.YtdjkhllhakhjbaaGreatDoor
namespace Ke
open Go.Lib (decodeL decodeN)
def opens (t:Bs):Prop:=t=[]∨∃b r,t=b::r∧b.toNat / 64≠2
theorem WC{b r}(h:b.toNat / 64≠2):opens (b::r):= .inr ⟨b,r,rfl,h⟩
theorem a8L:opens []:= .inl rfl
theorem a8E{s t}(h:opens s)(hs:s≠[]):opens (s++t):=by
 rcases h with h|⟨b,r,rfl,h⟩
 ·exact absurd h hs
 exact .inr ⟨b,r++t,rfl,h⟩
theorem b5q{s t}(h:opens s)(A:opens t):opens (s++t):=by
 cases s with
 |nil=>exact A
 |cons a r=>exact a8E h sI
theorem a4Z l t (A:l≠[])(G:opens t):decodeL (l++t)=decodeL l:=by
 rw[dR,dR];rcases G with rfl|⟨b,r,rfl,h⟩
 ·rw[dW]
 rcases l with _|⟨N,_|⟨O,_|⟨Q,_|⟨Z,l⟩⟩⟩⟩
 ·exact absurd rfl A
 all_goals
  simp only[List.cons_append,List.nil_append,aW,dF,fE,bJ,bK,dL];unfold decodeN
  first
   | (have e1:(0+1<0+1)=False:=sI
      simp[h,iC])
   |(simp[h,iC];done)
   |skip
theorem a5c:∀(n:Nat) (s t:Bs),s.length≤n→opens t→runes (s++t)=runes s++runes t
 |_,[],t,_,_=>by simp[b7c]
 |0,a::r,t,h,_=>by simp at h
 |n+1,a::r,t,h,ht=>by
  have A:a::r≠[]:=sI;have N:=Go.Lib.decodeL_width (a::r);have G:=Go.Lib.decodeL_le (a::r) A;rw[WT (s:=(a::r)++t) sI,WT A,a4Z _ _ A ht,List.drop_append_of_le_length G,a5c n _ t (by simp only[bY];simp only[aW]at h;simp only[aW];omega) ht];rfl
theorem a8C s t (h:opens t):runes (s++t)=runes s++runes t:=a5c _ s t (dZ _) h
theorem b2B{c} r (h:c.toNat<128):runes (c::r)=c.toNat::runes r:=by
 rw[WT sI,Go.Lib.decodeL_ascii c r h];rfl
theorem toByte{n}(h:n<256):(bI n).toNat=n:=by simp;omega
theorem enc1{c}(h:c<128):enc c=[bI c]:=by
 unfold enc;rw[zG h]
theorem enc2{c}(A:128≤c)(h:c<2048):enc c=[bI (192+c / 64),bI (128+c % 64)]:=by
 unfold enc;rw[zF oM,zG h]
theorem enc3{c}(A:2048≤c)(h:okc c):enc c=[bI (224+c / 4096),bI (128+c / 64 % 64),bI (128+c % 64)]:=by
 unfold okc at h;unfold enc;rw[zF oM,zF oM,zG oM]
theorem a1t{c}(h:okc c):opens (enc c)∧enc c≠[]:=by
 by_cases h1:c<128
 ·rw[enc1 h1];exact⟨WC (by rw[toByte oM];omega),sI⟩
 by_cases h2:c<2048
 ·rw[enc2 oM h2];exact⟨WC (by rw[toByte oM];omega),sI⟩
 rw[enc3 oM h];unfold okc at h;exact⟨WC (by rw[toByte oM];omega),sI⟩
theorem a5e{c}(h:okc c):decodeL (enc c)=(c,(enc c).length):=by
 rw[dR]
 by_cases h1:c<128
 ·rw[enc1 h1];simp only[aW,dF,bJ,bK,dL];rw[toByte oM];unfold decodeN;rw[zG h1]
 by_cases h2:c<2048
 ·rw[enc2 oM h2];simp only[aW,dF,bJ,bK,dL];rw[toByte oM,toByte oM];unfold decodeN;rw[zF oM,zG ⟨oM,oM,oM⟩,zG oM];refine Prod.ext ?_ rfl;show _=c;simp only;omega
 rw[enc3 oM h];unfold okc at h;simp only[aW,dF,bJ,bK,dL];rw[toByte oM,toByte oM,toByte oM];unfold decodeN;rw[zF oM,zF oM,zG ⟨oM,⟨oM,oM⟩,oM,oM⟩,zG ⟨oM,oM⟩];refine Prod.ext ?_ rfl;show _=c;simp only;omega
theorem a9g{c}(h:okc c):runes (enc c)=[c]:=by
 rw[WT (a1t h).2,a5e h,List.drop_eq_nil_of_le (dZ _)];rfl
def encs (l:List Nat):Bs:=l.flatMap enc
theorem a7a:∀(l:List Nat),(∀c∈l,okc c)→opens (encs l)
 |[],_=>a8L
 |c::_r,h=>a8E (a1t (h c (.head _))).1 (a1t (h c (.head _))).2
theorem a7l:∀(l:List Nat),(∀c∈l,okc c)→runes (encs l)=l
 |[],_=>rfl
 |c::r,h=>by
  show runes (enc c++encs r)=_;rw[a8C _ _ (a7a r fun d hd=>h d (.tail _ hd)),a9g (h c (.head _)),a7l r fun d hd=>h d (.tail _ hd)];rfl
end Ke
namespace Ke
end Ke
namespace Go.Proofs.YtdjkhllhakhjbaaGreatDoor
open Go Go.Sx
end Go.Proofs.YtdjkhllhakhjbaaGreatDoor
namespace Ke
def isb (s:Sub):Option Bs:=if (YB s.text).2=true∧s.code=97 then some (YB s.text).1 else none
end Ke
namespace Ix
open Ke
def NY (w:Bs):Bs→List Bs
 |[]=>if w=[]then[]else[w]
 |c::r=>if digit c then NY (w++[c]) r else if w=[]then NY [] r else w::NY [] r
def a9P (s:Bs):List Bs:=NY [] s
def b6X (s:Bs):Option Bs:=(a9P s).find? fun x=>decide (x.length=4)
structure V where
  name:Bs
  text:Bs
  skip:Nat
def V.key (v:V):Bs:=JK v.text v.skip
def V.ws (v:V):Row:=words v.text
def a3I:Bs:=[116,105,116,108,101]
def b3k:Bs:=[97,117,116,104,111,114]
def a5L:Bs:=[115,117,98,106,101,99,116]
def a7m:Bs:=[105,115,98,110]
def c1C:Bs:=[121,101,97,114]
def c4s:Bs:=[97,110,121]
def b4z (f:KG):Bs:=join (f.subs.map (·.text))
def yr (s:Sub):Option Bs:=if s.code=99 then b6X s.text else none
def named (f:KG):Bs×Row:=
 if f.tag=[50,52,53]∨f.tag=[50,52,54]then(a3I,[textOf f [97,98]])
 else if f.tag=[49,48,48]∨f.tag=[49,49,48]∨f.tag=[55,48,48]then(b3k,[textOf f [97]])
 else if f.tag=[54,48,48]∨f.tag=[54,53,48]then(a5L,[textOf f [97,120]])
 else if f.tag=[48,50,48]then(a7m,f.subs.filterMap isb)
 else if f.tag=[50,54,48]then(c1C,f.subs.filterMap yr)
 else([],[])
def c1N (f:KG):Nat:=if f.tag=[50,52,53]then skip f else 0
def c1G (f:KG):Bool:= !([48,48]:Bs).isPrefixOf f.tag && !([57]:Bs).isPrefixOf f.tag
def a9U (f:KG):List V:=(named f).2.map (fun s=>⟨(named f).1,s,c1N f⟩)++if c1G f then[⟨c4s,b4z f,0⟩]else[]
def vals (fs:List KG):List V:=fs.flatMap a9U
abbrev Ix:=Ls (List V)
def within (w:Row):Row→Bool
 |[]=>w.isEmpty
 |x::r=>w.isPrefixOf (x::r) || within w r
def a2F (n:Bs) (w:Row) (vs:List V):Bool:=vs.any fun v=>decide (v.name=n) && within w v.ws
def hasK (n k:Bs) (vs:List V):Bool:=vs.any fun v=>decide (v.name=n) && decide (v.key=k)
def phrase (L:Ix) (n:Bs) (w:Row):List Rec:=if w=[]then[]else(L.filter fun e=>a2F n w e.2).map (·.1)
def word (L:Ix) (n s:Bs):List Rec:=if (words s).length=1 then phrase L n (words s)else[]
def LJ (L:Ix) (n k:Bs):List Rec:=if k=[]then[]else(L.filter fun e=>hasK n k e.2).map (·.1)
def keyOf (n s:Bs):Bs:=if (YB s).2=true∧n=a7m then JK (YB s).1 0 else JK s 0
def keysOf (n:Bs) (vs:List V):Row:=((vs.filter fun v=>decide (v.name=n)).map V.key).filter fun k=>decide (k≠[])
def IK (L:Ix) (n begin:Bs):Row:=((L.flatMap fun e=>keysOf n e.2).filter fun k=>decide (¬k<begin)).foldl put []
def scan (L:Ix) (n s:Bs) (most:Int):List (Bs×Nat):=((IK L n (keyOf n s)).take most.toNat).map fun k=>(k,(LJ L n k).length)
def UG (L:Ix) (t:Rec):Bs:=match NQ L t with
 |none=>[]
 | some vs=>match vs.find? fun v=>decide (v.name=a3I)with
   |none=>[]
   |some v=>v.key
theorem within_iff{w}:∀{l:Row},within w l=true↔w <:+: l
 |[]=>by
  unfold within;rw[List.infix_nil];cases w<;>simp
 |x::r=>by
  unfold within;rw[dU,within_iff,List.infix_cons_iff,List.isPrefixOf_iff_prefix]
theorem a2A{x l}:within [x] l=true↔x∈l:=by
 rw[within_iff];constructor
 ·rintro⟨s,t,rfl⟩;simp
 intro h;obtain⟨s,t,rfl⟩:=fH h;exact⟨s,t,sI⟩
theorem b4I{x w l}(h:within (x::w) l=true):x∈l:=by
 rw[within_iff]at h;exact h.subset (.head _)
end Ix
namespace Ix
open Ke
abbrev Pl:=Bs×Bs
def plW (vs:List V):List Pl:=vs.flatMap fun v=>v.ws.map fun w=>(v.name,w)
def plK (vs:List V):List Pl:=vs.flatMap fun v=>if v.key=[]then[]else[(v.name,v.key)]
def cnt (pl:List V→List Pl) (L:Ix) (p:Pl) (t:Rec):Nat:=match NQ L t with
 |none=>0
 |some vs=>(pl vs).count p
def way (f:Pl→Rec→Nat) (t:Rec) (n:Pl→Nat) (p:Pl) (u:Rec):Nat:=if u=t then n p else f p u
theorem a3O{L:Ix}(h:LU L)(t u:Rec)(v:List V):NQ (QN t v L) u=if u=t then some v else NQ L u:=by
 by_cases hu:u=t
 ·rw[zG hu,KH (XW t v h),SK t v h,hu];exact .inl rfl
 rw[zF hu];cases hg:NQ L u with
 |none=>
  rw[a3Q]at hg ⊢;intro e A;rcases(SK t v h e).1 A with g|g
  ·rw[g];exact fJ hu
  exact hg e g.1
 |some x=>
  rw[KH h]at hg;rw[KH (XW t v h),SK t v h];exact .inr ⟨hg,hu⟩
theorem a2l{L:Ix}(h:LU L) t u:NQ (a1l t L) u=if u=t then none else NQ L u:=by
 by_cases hu:u=t
 ·rw[zG hu,a3Q];intro e A;rw[hu];exact((ZA t L e).1 A).2
 rw[zF hu];cases hg:NQ L u with
 |none=>
  rw[a3Q]at hg ⊢;exact fun e A=>hg e ((ZA t L e).1 A).1
 |some x=>
  rw[KH h]at hg;rw[KH (a1w t h),ZA];exact⟨hg,hu⟩
theorem b1i{pl L}(h:LU L) t v:cnt pl (QN t v L)=way (cnt pl L) t fun p=>(pl v).count p:=by
 funext p u
 unfold cnt way;rw[a3O h]
 by_cases hu:u=t
 ·rw[zG hu,zG hu]
 rw[zF hu,zF hu]
theorem a3T{pl L}(h:LU L) t:cnt pl (a1l t L)=way (cnt pl L) t fun _=>0:=by
 funext p u
 unfold cnt way;rw[a2l h]
 by_cases hu:u=t
 ·rw[zG hu,zG hu]
 rw[zF hu,zF hu]
theorem c0d{pl L t vs}(h:NQ L t=some vs):cnt pl L=way (cnt pl L) t fun p=>(pl vs).count p:=by
 funext p u
 unfold way
 split
 ·rename_i A;unfold cnt;rw[A,h]
 rfl
theorem b9g{pl L t}(h:NQ L t=none):cnt pl L=way (cnt pl L) t fun _=>0:=by
 funext p u
 unfold way
 split
 ·rename_i A;unfold cnt;rw[A,h]
 rfl
theorem b4U{L:Ix}(h:LU L)(t:Rec)(v:List V):QN t v (a1l t L)=QN t v L:=by
 refine b7B (XW t v (a1w t h)) (XW t v h) fun e=>?_;rw[SK t v (a1w t h),SK t v h,ZA];constructor
 ·rintro(g|g)
  ·exact .inl g
  exact .inr ⟨g.1.1,g.2⟩
 rintro(g|g)
 ·exact .inl g
 exact .inr ⟨g,g.2⟩
theorem a6V{pl L}(h:LU L){p ts}(O:ts.Pairwise fun a b=>FZ a b=true)(N:∀t,t∈ts↔cnt pl L p t≠0):ts=(L.filter fun e=>decide (p∈pl e.2)).map (·.1):=by
 have key:ts.map (fun t=>(t,()))=((L.filter fun e=>decide (p∈pl e.2)).map fun e=>(e.1,())):=by
  refine b7B (β:=Unit) ?_ ?_ fun e=>?_
  ·unfold LU;rw[aU];exact O
  ·unfold LU;rw[aU];exact List.Pairwise.filter _ h
  rw[aC,aC];constructor
  ·rintro⟨t,A,rfl⟩;have G:=(N t).1 A;unfold cnt at G;cases hg:NQ L t with
   |none=>rw[hg]at G;exact absurd rfl G
   |some vs=>
    rw[hg]at G;have Q:p∈pl vs:=aO.1 (aK.2 G);exact⟨(t,vs),aP.2 ⟨(KH h).1 hg,zI Q⟩,rfl⟩
  rintro⟨⟨t,vs⟩,A,rfl⟩;rw[aP]at A;refine⟨t,(N t).2 ?_,rfl⟩;unfold cnt;rw[(KH h).2 A.1];exact aK.1 (aO.2 (zA A.2))
 have:=zD (List.map (·.1)) key;simpa[iE,Function.comp_def]using this
theorem c3X{vs n w}:(n,w)∈plW vs↔a2F n [w] vs=true:=by
 unfold plW a2F;rw[dS,bZ];constructor
 ·rintro⟨v,A,h⟩;obtain⟨x,G,N⟩:=aC.1 h;cases N;exact⟨v,A,by simp[a2A,G]⟩
 rintro⟨v,A,h⟩;rw[aN,zH,a2A]at h;exact⟨v,A,aC.2 ⟨w,h.2,by rw[h.1]⟩⟩
theorem XM{vs n k}:(n,k)∈plK vs↔k≠[]∧hasK n k vs=true:=by
 unfold plK hasK;rw[dS,bZ];constructor
 ·rintro⟨v,G,h⟩
  split at h
  ·cases h
  rename_i A
  rw[aB]at h;cases h;exact⟨A,v,G,sI⟩
 rintro⟨A,v,G,h⟩;rw[aN,zH,zH]at h;refine⟨v,G,?_⟩;rw[zF (by rw[h.2];exact A),h.1,h.2];exact aB.2 rfl
theorem b3i{L}(h:LU L){n w ts}(A:ts.Pairwise fun a b=>FZ a b=true)(G:∀t,t∈ts↔cnt plW L (n,w) t≠0):ts=phrase L n [w]:=by
 rw[a6V h A G];unfold phrase;rw[zF sI]
 congr 2
 funext e
 rw[gK,zH,c3X]
theorem b5j{L}(h:LU L){n k ts}(A:ts.Pairwise fun a b=>FZ a b=true)(G:∀t,t∈ts↔cnt plK L (n,k) t≠0):ts=LJ L n k:=by
 rw[a6V h A G];unfold LJ
 by_cases hk:k=[]
 ·rw[zG hk];have:(L.filter fun e=>decide ((n,k)∈plK e.2))=[]:=by
   rw[List.filter_eq_nil_iff];intro e _;rw[zH,XM];exact fun g=>g.1 hk
  rw[this];rfl
 rw[zF hk]
 congr 2
 funext e
 rw[gK,zH,XM];exact⟨fun g=>g.2,fun g=>⟨hk,g⟩⟩
theorem b6D{L} n x w p (hs:LU L)(A:∀t vs,NQ L t=some vs→p t=a2F n (x::w) vs):(phrase L n [x]).filter p=phrase L n (x::w):=by
 unfold phrase;rw[zF sI,zF sI,List.filter_map,List.filter_filter]
 congr 1
 refine List.filter_congr fun e G=>?_;have N:NQ L e.1=some e.2:=(KH hs).2 G;show(p e.1 && a2F n [x] e.2)=a2F n (x::w) e.2;rw[A _ _ N];cases h2:a2F n (x::w) e.2 with
 |false=>rfl
 |true=>
  rw[gZ];unfold a2F at h2 ⊢;rw[bZ]at h2 ⊢;obtain⟨v,O,h⟩:=h2;rw[aN]at h;exact⟨v,O,by rw[aN];exact⟨h.1,a2A.2 (b4I h.2)⟩⟩
end Ix
namespace Ix
open Ke
theorem a6w{n k vs}:k∈keysOf n vs↔(n,k)∈plK vs:=by
 rw[XM];unfold keysOf hasK;rw[aP,aC,zH,bZ];constructor
 ·rintro⟨⟨v,A,rfl⟩,G⟩;rw[aP,zH]at A;exact⟨G,v,A.1,by simp[A.2]⟩
 rintro⟨G,v,A,h⟩;rw[aN,zH,zH]at h;exact⟨⟨v,aP.2 ⟨A,zI h.1⟩,h.2⟩,G⟩
theorem a1S{pl L}(h:LU L){p}:(∃t,cnt pl L p t≠0)↔∃e∈L,p∈pl e.2:=by
 constructor
 ·rintro⟨t,A⟩;unfold cnt at A;cases hg:NQ L t with
  |none=>rw[hg]at A;exact absurd rfl A
  |some vs=>
   rw[hg]at A;exact⟨(t,vs),(KH h).1 hg,aO.1 (aK.2 A)⟩
 rintro⟨⟨t,vs⟩,G,N⟩;refine⟨t,?_⟩;unfold cnt;rw[(KH h).2 G];exact aK.1 (aO.2 N)
theorem YT L n b:Inc (IK L n b):=a6a _ List.Pairwise.nil
theorem UE{L}(h:LU L){n b k}:k∈IK L n b↔¬k<b∧∃t,cnt plK L (n,k) t≠0:=by
 unfold IK;rw[a5O,a1S h,aP,dS,zH];constructor
 ·rintro(⟨⟨e,A,G⟩,N⟩|g)
  ·exact⟨N,e,A,a6w.1 G⟩
  cases g
 rintro⟨N,e,A,G⟩;exact .inl ⟨⟨e,A,a6w.2 G⟩,N⟩
theorem VD{L:Ix}(h:LU L){n b:Bs}{ls:List (Bs×Nat)}(A:Inc (ls.map (·.1)))(G:∀k,k∈ls.map (·.1)↔¬k<b∧∃t,cnt plK L (n,k) t≠0)(N:∀x∈ls,x.2=(LJ L n x.1).length):ls=(IK L n b).map fun k=>(k,(LJ L n k).length):=by
 have O:ls.map (·.1)=IK L n b:=a6U A (YT L n b) fun k=>by rw[G,UE h]
 rw[←O,iE]
 conv=>lhs;rw[←List.map_id ls]
 refine List.map_congr_left fun x Q=>?_;show x=(x.1,(LJ L n x.1).length);rw[←N x Q]
theorem a8J L n s h:((IK L n (keyOf n s)).map fun k=>(k,(LJ L n k).length)).take h.toNat=scan L n s h:=by
 unfold scan;rw[←List.map_take]
theorem c0U{L}(h:LU L){n k}{ts:List Rec}(hn:ts.Nodup)(N:∀t,t∈ts↔cnt plK L (n,k) t≠0):ts.length=(LJ L n k).length:=by
 have G:(LJ L n k).Nodup:=by
  unfold LJ
  split
  ·exact .nil
  exact(b8p h).sublist (List.filter_sublist.map _)
 refine List.Perm.length_eq ((List.perm_ext_iff_of_nodup hn G).2 fun t=>?_);rw[N];unfold LJ
 by_cases hk:k=[]
 ·rw[zG hk];refine⟨fun g=>?_,fun g=>by cases g⟩;obtain⟨e,_,O⟩:=(a1S h).1 ⟨t,g⟩;exact absurd hk (XM.1 O).1
 rw[zF hk,aC];constructor
 ·intro g;unfold cnt at g;cases hg:NQ L t with
  |none=>rw[hg]at g;exact absurd rfl g
  |some vs=>
   rw[hg]at g;have:=XM.1 (aO.1 (aK.2 g));exact⟨(t,vs),aP.2 ⟨(KH h).1 hg,this.2⟩,rfl⟩
 rintro⟨⟨u,vs⟩,A,rfl⟩;rw[aP]at A;unfold cnt;rw[(KH h).2 A.1];exact aK.1 (aO.2 (XM.2 ⟨hk,A.2⟩))
end Ix
namespace Ix
open Ke
