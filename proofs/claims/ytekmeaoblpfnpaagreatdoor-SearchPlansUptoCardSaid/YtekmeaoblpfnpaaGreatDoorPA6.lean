/-
  Own texts on the laws of the seat, joined: the logic, and contracts of functions. Conditions: none.
-/
import Derived.Test.YtekmeaoblpfnpaaGreatDoorNmA
import Derived.Test.YtekmeaoblpfnpaaGreatDoorPA5
import Derived.Lib.FieldsP
import Derived.Laws.AppendOwn
set_option linter.all false
set_option maxRecDepth 100000
set_option maxHeartbeats 40000000
open List renaming map_append -> aA,append_nil -> aB,length_append -> aC,mem_cons -> aF,getElem?_eq_some_iff -> aG,map_cons -> aH,take_succ_eq_append_getElem -> aI,mem_singleton -> aJ,mem_append -> aK,take_of_length_le -> aO,pairwise_cons -> aQ,one_le_count_iff -> aW,mem_map -> aX,mem_filter -> aY,flatMap_append -> bC,cons_ne_nil -> bD,length_cons -> bG,filter_append -> bH,length_map -> bI,take_append_drop -> bK,length_take -> bM,isPrefixOf_iff_prefix -> bQ,length_nil -> bV,map_map -> bW,flatMap_cons -> cO,mem_append_right -> dA,nil_append -> dD,mem_append_left -> dG,filter_eq_self -> dH,mem_map_of_mem -> dI,getD_eq_getElem?_getD -> dM,pairwise_map -> dN,append_assoc -> dQ,nodup_append -> dR,mem_of_find?_eq_some -> dS,any_eq_true -> dV,length_filterMap_le -> dY,filter_cons_of_neg -> dZ,find?_some -> eF,filter_map -> eG,nodup_cons -> eP,drop_eq_nil_of_le -> eU,getElem_cons_drop -> eX,getElem?_eq_none -> fA,sum_cons -> fF,length_pos_iff -> fG,append_of_mem -> fH,filter_congr -> fO,mem_flatMap -> fP,cons_append -> fU,drop_drop -> fV,drop_zero -> fZ,map_nil -> gK
open Bool renaming false_eq_true -> aN,and_eq_true -> aV,eq_iff_iff -> bU,noConfusion -> cZ,true_and -> dL,eq_false_iff -> fM
open Ke renaming textOf -> aP,Sub -> dW,skip -> fB,digit -> fQ,LV -> gQ
open Go.Proofs.Tryz renaming prog -> aS
open Nat renaming one_le_iff_ne_zero -> aT,le_refl -> aU,lt_or_ge -> dB,zero_le -> dJ,min_eq_left -> eH
open Go.Sx.Keeps renaming d -> aZ,r -> bT,n -> gU
open Go.Utf8 renaming decode -> bF
open Go.Sx.Ej renaming round -> bJ,keep -> bY,persist -> bZ
open Go.Sx.yY renaming toPure -> bP
open Go.Sx.AL renaming c -> dF,z -> fE,s -> fJ
open Go.Sx.FB renaming part -> dK
open Function renaming comp_def -> dP
open Ne renaming symm -> dU
open Go.Sx.J renaming ev -> dX
open Array renaming getElem?_eq_none -> eY
open Go.Sx.yZ renaming LK -> fC
open Go.Value renaming oneCell' -> fD
open Go.Sx.Cj renaming loop -> fK,keep -> gG
open Go.Sx.Le renaming refl -> gB
open Go.Instr renaming checkKey -> gI,sameBits -> gJ
namespace Ix
open Ke
abbrev Rec:=Int×Int
def JJ (a b:Rec):Bool:=decide (a.1<b.1) || (decide (a.1=b.1) && decide (a.2<b.2))
theorem WU{a b}:JJ a b=true↔a.1<b.1∨(a.1=b.1∧a.2<b.2):=by simp[JJ]
theorem GR a:JJ a a=false:=by rw[fM,Ne,WU];omega
theorem NY{a b c}(h1:JJ a b=true)(h2:JJ b c=true):JJ a c=true:=by
 rw[WU]at *;omega
theorem a0r a b:JJ a b=true∨a=b∨JJ b a=true:=by grind [WU]
section
variable {β:Type}
abbrev Ls (β:Type):=List (Rec×β)
def BK (l : Ls β) : Prop := l.Pairwise fun a b => JJ a.1 b.1 = true
def KY (t:Rec) (v:β):Ls β→Ls β
 |[]=>[(t,v)]
 |(u,x)::r=>if JJ u t then(u,x)::KY t v r else if u=t then(t,v)::r else(t,v)::(u,x)::r
def UO (t:Rec) (l:Ls β):Ls β:=l.filter fun e=>decide (e.1≠t)
def KC (l:Ls β) (t:Rec):Option β:=(l.find? fun e=>decide (e.1=t)).map (·.2)
theorem PD t v:∀{l:Ls β},BK l→∀e,e∈KY t v l↔e=(t,v)∨(e∈l∧e.1≠t)
 |[],_,e=>by simp[KY]
 |(u,x)::r,h,e=>by
  have N:=aQ.1 h;unfold KY
  by_cases h1:JJ u t=true
  ·rw[zF h1,aF,PD t v N.2,aF];have W:u≠t:=fun g=>by rw[g,GR]at h1;cases h1
   constructor
   ·rintro(g|g|g)
    ·exact .inr ⟨.inl g,by rw[g];exact W⟩
    ·exact .inl g
    exact .inr ⟨.inr g.1,g.2⟩
   rintro(g|⟨g|g,h2⟩)
   ·exact .inr (.inl g)
   ·exact .inl g
   exact .inr (.inr ⟨g,h2⟩)
  rw[zD h1]
  by_cases h2:u=t
  ·rw[zF h2,aF,aF];subst h2;constructor
   ·rintro(g|g)
    ·exact .inl g
    refine .inr ⟨.inr g,fun h3=>?_⟩;have:=N.1 e g;rw[h3]at this;simp only[GR]at this;cases this
   rintro(g|⟨g|g,h3⟩)
   ·exact .inl g
   ·exact absurd (by rw[g]) h3
   exact .inr g
  rw[zD h2,aF];have h3:JJ t u=true:=((a0r u t).resolve_left h1).resolve_left h2;constructor
  ·rintro(g|g)
   ·exact .inl g
   refine .inr ⟨g,fun O=>?_⟩;rcases aF.1 g with g|g
   ·rw[g]at O;exact h2 O
   have:=NY h3 (N.1 e g);rw[O,GR]at this;cases this
  rintro(g|g)
  ·exact .inl g
  exact .inr g.1
theorem VN t v:∀{l:Ls β},BK l→BK (KY t v l)
 |[],_=>List.pairwise_singleton _ _
 |(u,x)::r,h=>by
  have N:=aQ.1 h;unfold KY
  by_cases h1:JJ u t=true
  ·rw[zF h1];refine aQ.2 ⟨fun e O=>?_,VN t v N.2⟩;rcases(PD t v N.2 e).1 O with g|g
   ·rw[g];exact h1
   exact N.1 e g.1
  rw[zD h1]
  by_cases h2:u=t
  ·rw[zF h2];subst h2;exact aQ.2 ⟨fun e O=>N.1 e O,N.2⟩
  rw[zD h2];have h3:JJ t u=true:=((a0r u t).resolve_left h1).resolve_left h2;refine aQ.2 ⟨fun e O=>?_,h⟩;rcases aF.1 O with g|g
  ·rw[g];exact h3
  exact NY h3 (N.1 e g)
theorem a0c t {l:Ls β}(h:BK l):BK (UO t l):=h.filter _
theorem SV t l (e:Rec×β):e∈UO t l↔e∈l∧e.1≠t:=by simp[UO]
theorem b8Z{a b:Ls β}(ha:BK a)(hb:BK b)(h:∀e,e∈a↔e∈b):a=b:=by
 induction a generalizing b with
 |nil=>
  rcases b with _|⟨y,t⟩
  ·rfl
  exact absurd ((h y).2 (.head _)) sI
 |cons x r ih=>
  rcases b with _|⟨y,t⟩
  ·exact absurd ((h x).1 (.head _)) sI
  have N:=aQ.1 ha;have O:=aQ.1 hb;have a0:x=y:=by
   rcases aF.1 ((h x).1 (.head _))with e|e
   ·exact e
   rcases aF.1 ((h y).2 (.head _))with Z|Z
   ·exact Z.symm
   have:=NY (O.1 x e) (N.1 y Z);rw[GR]at this;cases this
  subst a0;rw[ih N.2 O.2 fun z=>⟨fun W=>?_,fun W=>?_⟩]
  ·rcases aF.1 ((h z).1 (.tail _ W))with rfl|e
   ·have:=N.1 z W;rw[GR]at this;cases this
   exact e
  rcases aF.1 ((h z).2 (.tail _ W))with rfl|e
  ·have:=O.1 z W;rw[GR]at this;cases this
  exact e
theorem c4e{l}(h:BK l){a b:Rec×β}(Z:a∈l)(hb:b∈l)(he:a.1=b.1):a=b:=by
 induction l with
 |nil=>cases Z
 |cons x r ih=>
  have W:=aQ.1 h;rcases aF.1 Z with N|N<;>rcases aF.1 hb with O|O
  ·rw[N,O]
  ·have:=W.1 b O;rw[←N,he,GR]at this;cases this
  ·have:=W.1 a N;rw[←O,←he,GR]at this;cases this
  exact ih W.2 N O
theorem a8l{l:Ls β}(h:BK l):(l.map (·.1)).Nodup:=by
 rw[List.nodup_iff_pairwise_ne,dN];exact h.imp fun {a b} g e=>by rw[e,GR]at g;cases g
theorem IK{l}(h:BK l){t:Rec}{v:β}:KC l t=some v↔(t,v)∈l:=by
 unfold KC;constructor
 ·intro g;obtain⟨e,N,rfl⟩:=Option.map_eq_some_iff.1 g;have h1:=eF N;have h2:e.1=t:=zA h1;have:=dS N;rw[←h2];exact this
 intro g;have O:(l.find? fun e=>decide (e.1=t)).isSome=true:=by
  rw[List.find?_isSome];exact⟨_,g,sI⟩
 obtain⟨e,N⟩:=Option.isSome_iff_exists.1 O;have h0:=eF N;have h1:e.1=t:=zA h0;have h2:=c4e h (dS N) g h1;rw[N,h2];rfl
theorem a3w{l:Ls β}{t}:KC l t=none↔∀e∈l,e.1≠t:=by grind [KC,Option.map_eq_none_iff]
def c2x (es l:Ls β):Ls β:=es.foldl (fun l e=>KY e.1 e.2 l) l
end
end Ix
namespace Ke
def isb (s:Sub):Option Bs:=if (OT s.text).2=true∧s.code=97 then some (OT s.text).1 else none
end Ke
namespace Ix
open Ke
def GH (w:Bs):Bs→List Bs
 |[]=>if w=[]then[]else[w]
 |c::r=>if digit c then GH (w++[c]) r else if w=[]then GH [] r else w::GH [] r
def QE (s:Bs):List Bs:=GH [] s
def KT (s:Bs):Option Bs:=(QE s).find? fun x=>decide (x.length=4)
structure V where
  name:Bs
  text:Bs
  skip:Nat
def V.key (v:V):Bs:=GI v.text v.skip
def V.ws (v:V):Row:=words v.text
def KW:Bs:=[116,105,116,108,101]
def KN:Bs:=[97,117,116,104,111,114]
def KU:Bs:=[115,117,98,106,101,99,116]
def MX:Bs:=[105,115,98,110]
def a0p:Bs:=[121,101,97,114]
def PI:Bs:=[97,110,121]
def NS (f:LV):Bs:=join (f.subs.map (·.text))
def yr (s:Sub):Option Bs:=if s.code=99 then KT s.text else none
def named (f:LV):Bs×Row:=
 if f.tag=[50,52,53]∨f.tag=[50,52,54]then(KW,[textOf f [97,98]])
 else if f.tag=[49,48,48]∨f.tag=[49,49,48]∨f.tag=[55,48,48]then(KN,[textOf f [97]])
 else if f.tag=[54,48,48]∨f.tag=[54,53,48]then(KU,[textOf f [97,120]])
 else if f.tag=[48,50,48]then(MX,f.subs.filterMap isb)
 else if f.tag=[50,54,48]then(a0p,f.subs.filterMap yr)
 else([],[])
def OH (f:LV):Nat:=if f.tag=[50,52,53]then skip f else 0
def RS (f:LV):Bool:= !([48,48]:Bs).isPrefixOf f.tag && !([57]:Bs).isPrefixOf f.tag
def TT (f:LV):List V:=(named f).2.map (fun s=>⟨(named f).1,s,OH f⟩)++if RS f then[⟨PI,NS f,0⟩]else[]
def vals (fs:List LV):List V:=fs.flatMap TT
def ofN (f:LV) (n:Bs):List (Bs×Nat):=
 if n=KW then(if f.tag=[50,52,53]∨f.tag=[50,52,54]then[(textOf f [97,98],OH f)]else[])
 else if n=KN then(if f.tag=[49,48,48]∨f.tag=[49,49,48]∨f.tag=[55,48,48]then[(textOf f [97],0)]else[])
 else if n=KU then(if f.tag=[54,48,48]∨f.tag=[54,53,48]then[(textOf f [97,120],0)]else[])
 else if n=MX then(if f.tag=[48,50,48]then(f.subs.filterMap isb).map fun s=>(s,0)else[])
 else if n=a0p then(if f.tag=[50,54,48]then(f.subs.filterMap yr).map fun s=>(s,0)else[])
 else if n=PI then(if RS f then[(NS f,0)]else[])
 else[]
def valsN (fs:List LV) (n:Bs):List (Bs×Nat):=fs.flatMap fun f=>ofN f n
abbrev V.ts (v:V):Bs×Nat:=(v.text,v.skip)
theorem a6q n m k (l:Row):((l.map fun s=>(⟨m,s,k⟩:V)).filter fun v=>decide (v.name=n)).map V.ts=if m=n then l.map (fun s=>(s,k))else[]:=by
 rw[eG]
 by_cases h:m=n
 ·subst h;simp only[dP,decide_true,bW,if_true];rw[dH.2 fun _ _=>rfl]
 simp[dP,h]
theorem b6v f n (hn:n≠PI):(if (named f).1=n then(named f).2.map (fun s=>(s,OH f))else[])=ofN f n:=by
 unfold ofN;rw[zD (c:=n=PI) hn];have a0:f.tag≠[50,52,53]→OH f=0:=fun h=>zD h;unfold named
 split
 ·rename_i N
  have a1:¬(f.tag=[49,48,48]∨f.tag=[49,49,48]∨f.tag=[55,48,48]):=by rintro(g|g|g)<;>rw[g]at N<;>revert N<;>decide
  have a2:¬(f.tag=[54,48,48]∨f.tag=[54,53,48]):=by rintro(g|g)<;>rw[g]at N<;>revert N<;>decide
  have Z:¬f.tag=[48,50,48]:=by intro g;rw[g]at N;revert N;decide
  have O:¬f.tag=[50,54,48]:=by intro g;rw[g]at N;revert N;decide
  rw[zD a1,zD a2,zD Z,zD O]
  by_cases n1:n=KW
  ·subst n1;simp
  simp[n1,dU n1]
 rename_i N
 have hk:OH f=0:=a0 fun g=>N (.inl g);rw[hk]
 split
 ·rename_i W
  have a2:¬(f.tag=[54,48,48]∨f.tag=[54,53,48]):=by rintro(g|g)<;>rw[g]at W<;>revert W<;>decide
  have Z:¬f.tag=[48,50,48]:=by intro g;rw[g]at W;revert W;decide
  have O:¬f.tag=[50,54,48]:=by intro g;rw[g]at W;revert W;decide
  rw[zD a2,zD Z,zD O]
  by_cases n1:n=KN
  ·subst n1;simp[KN,KW]
  simp[n1,dU n1]
 split
 ·rename_i t3
  have Z:¬f.tag=[48,50,48]:=by intro g;rw[g]at t3;revert t3;decide
  have O:¬f.tag=[50,54,48]:=by intro g;rw[g]at t3;revert t3;decide
  rw[zD Z,zD O]
  by_cases n1:n=KU
  ·subst n1;simp[KN,KW,KU]
  simp[n1,dU n1]
 split
 ·rename_i t4
  have O:¬f.tag=[50,54,48]:=by intro g;rw[g]at t4;revert t4;decide
  rw[zD O]
  by_cases n1:n=MX
  ·subst n1;simp[KN,KW,KU,MX]
  simp[n1,dU n1]
 split
 ·by_cases n1:n=a0p
  ·subst n1;simp[KN,KW,KU,MX,a0p]
  simp[n1,dU n1]
 simp
theorem c5u f n:((TT f).filter fun v=>decide (v.name=n)).map V.ts=ofN f n:=by
 unfold TT;rw[bH,aA,a6q]
 by_cases hn:n=PI
 ·subst hn;have h1:(named f).1≠PI:=by
   unfold named
   split
   ·exact zA rfl
   split
   ·exact zA rfl
   split
   ·exact zA rfl
   split
   ·exact zA rfl
   split
   ·exact zA rfl
   exact zA rfl
  rw[zD h1];have h2:ofN f PI=if RS f then[(NS f,0)]else[]:=by
   unfold ofN;rw[zD (c:=PI=KW) dE,zD (c:=PI=KN) dE,zD (c:=PI=KU) dE,zD (c:=PI=MX) dE,zD (c:=PI=a0p) dE,zF (c:=PI=PI) rfl]
  rw[h2]
  by_cases g:RS f=true
  ·rw[zF g,zF g];simp
  rw[zD g,zD g];rfl
 rw[b6v f n hn]
 by_cases g:RS f=true
 ·rw[zF g];simp[dU hn]
 rw[zD g];simp
theorem b0F fs n:((vals fs).filter fun v=>decide (v.name=n)).map V.ts=valsN fs n:=by
 unfold vals valsN
 induction fs with
 |nil=>rfl
 |cons f r N=>rw[cO,bH,aA,c5u,N,cO]
abbrev Ix:=Ls (List V)
def within (w:Row):Row→Bool
 |[]=>w.isEmpty
 |x::r=>w.isPrefixOf (x::r) || within w r
def ZF (n:Bs) (w:Row) (vs:List V):Bool:=vs.any fun v=>decide (v.name=n) && within w v.ws
def hasK (n k:Bs) (vs:List V):Bool:=vs.any fun v=>decide (v.name=n) && decide (v.key=k)
def phrase (L:Ix) (n:Bs) (w:Row):List Rec:=if w=[]then[]else(L.filter fun e=>ZF n w e.2).map (·.1)
def word (L : Ix) (n s : Bs) : List Rec := if (words s).length = 1 then phrase L n (words s) else []
def GU (L:Ix) (n k:Bs):List Rec:=if k=[]then[]else(L.filter fun e=>hasK n k e.2).map (·.1)
def keyOf (n s:Bs):Bs:=if (OT s).2=true∧n=MX then GI (OT s).1 0 else GI s 0
def keysOf (n:Bs) (vs:List V):Row:=((vs.filter fun v=>decide (v.name=n)).map V.key).filter fun k=>decide (k≠[])
def EI (L:Ix) (n begin:Bs):Row:=((L.flatMap fun e=>keysOf n e.2).filter fun k=>decide (¬k<begin)).foldl put []
def scan (L:Ix) (n s:Bs) (most:Int):List (Bs×Nat):=((EI L n (keyOf n s)).take most.toNat).map fun k=>(k,(GU L n k).length)
def UH (L:Ix) (t:Rec):Bs:=match KC L t with
 |none=>[]
 | some vs=>match vs.find? fun v=>decide (v.name=KW)with
   |none=>[]
   |some v=>v.key
theorem within_iff{w}:∀{l:Row},within w l=true↔w <:+: l
 |[]=>by
  unfold within;rw[List.infix_nil];cases w<;>simp
 |x::r=>by
  unfold within;rw[Bool.or_eq_true,within_iff,List.infix_cons_iff,bQ]
theorem a2a{x l}:within [x] l=true↔x∈l:=by
 rw[within_iff];constructor
 ·rintro⟨s,t,rfl⟩;simp
 intro h;obtain⟨s,t,rfl⟩:=fH h;exact⟨s,t,sI⟩
theorem b6g{x w l}(h:within (x::w) l=true):x∈l:=by
 rw[within_iff]at h;exact h.subset (.head _)
end Ix
namespace Ix
open Ke
abbrev Pl:=Bs×Bs
def plW (vs:List V):List Pl:=vs.flatMap fun v=>v.ws.map fun w=>(v.name,w)
def XF (vs:List V):List Pl:=vs.flatMap fun v=>if v.key=[]then[]else[(v.name,v.key)]
def cnt (pl:List V→List Pl) (L:Ix) (p:Pl) (t:Rec):Nat:=match KC L t with
 |none=>0
 |some vs=>(pl vs).count p
def way (f:Pl→Rec→Nat) (t:Rec) (n:Pl→Nat) (p:Pl) (u:Rec):Nat:=if u=t then n p else f p u
theorem a3G{L:Ix}(h:BK L)(t u:Rec)(v:List V):KC (KY t v L) u=if u=t then some v else KC L u:=by
 by_cases hu:u=t
 ·rw[zF hu,IK (VN t v h),PD t v h,hu];exact .inl rfl
 rw[zD hu];cases hg:KC L u with
 |none=>
  rw[a3w]at hg ⊢;intro e N;rcases(PD t v h e).1 N with g|g
  ·rw[g];exact dU hu
  exact hg e g.1
 |some x=>
  rw[IK h]at hg;rw[IK (VN t v h),PD t v h];exact .inr ⟨hg,hu⟩
theorem a1Y{L:Ix}(h:BK L) t u:KC (UO t L) u=if u=t then none else KC L u:=by
 by_cases hu:u=t
 ·rw[zF hu,a3w];intro e N;rw[hu];exact((SV t L e).1 N).2
 rw[zD hu];cases hg:KC L u with
 |none=>
  rw[a3w]at hg ⊢;exact fun e N=>hg e ((SV t L e).1 N).1
 |some x=>
  rw[IK h]at hg;rw[IK (a0c t h),SV];exact⟨hg,hu⟩
theorem b0Z{pl L}(h:BK L) t v:cnt pl (KY t v L)=way (cnt pl L) t fun p=>(pl v).count p:=by
 funext p u
 unfold cnt way;rw[a3G h]
 by_cases hu:u=t
 ·rw[zF hu,zF hu]
 rw[zD hu,zD hu]
theorem b8x{pl L}(h:BK L) t:cnt pl (UO t L)=way (cnt pl L) t fun _=>0:=by
 funext p u
 unfold cnt way;rw[a1Y h]
 by_cases hu:u=t
 ·rw[zF hu,zF hu]
 rw[zD hu,zD hu]
theorem c0t{pl L t vs}(h:KC L t=some vs):cnt pl L=way (cnt pl L) t fun p=>(pl vs).count p:=by unfold way cnt;grind
theorem c0s{pl L t}(h:KC L t=none):cnt pl L=way (cnt pl L) t fun _=>0:=by unfold way cnt;grind
theorem b5I{L:Ix}(h:BK L)(t:Rec)(v:List V):KY t v (UO t L)=KY t v L:=by grind [SV,b8Z,VN,a0c,PD]
theorem a6G{pl L}(h:BK L){p ts}(h1:ts.Pairwise fun a b=>JJ a b=true)(h2:∀t,t∈ts↔cnt pl L p t≠0):ts=(L.filter fun e=>decide (p∈pl e.2)).map (·.1):=by
 have key:ts.map (fun t=>(t,()))=((L.filter fun e=>decide (p∈pl e.2)).map fun e=>(e.1,())):=by
  refine b8Z (β:=Unit) ?_ ?_ fun e=>?_
  ·unfold BK;rw[dN];exact h1
  ·unfold BK;rw[dN];exact List.Pairwise.filter _ h
  rw[aX,aX];constructor
  ·rintro⟨t,N,rfl⟩;have h3:=(h2 t).1 N;unfold cnt at h3;cases hg:KC L t with
   |none=>rw[hg]at h3;exact absurd rfl h3
   |some vs=>
    rw[hg]at h3;have O:p∈pl vs:=aW.1 (aT.2 h3);exact⟨(t,vs),aY.2 ⟨(IK h).1 hg,zH O⟩,rfl⟩
  rintro⟨⟨t,vs⟩,N,rfl⟩;rw[aY]at N;refine⟨t,(h2 t).2 ?_,rfl⟩;unfold cnt;rw[(IK h).2 N.1];exact aT.1 (aW.2 (zA N.2))
 have:=zC (List.map (·.1)) key;simpa[bW,dP]using this
theorem c4y{vs n w}:(n,w)∈plW vs↔ZF n [w] vs=true:=by
 unfold plW ZF;rw[fP,dV];constructor
 ·rintro⟨v,N,h⟩;obtain⟨x,O,W⟩:=aX.1 h;cases W;exact⟨v,N,by simp[a2a,O]⟩
 rintro⟨v,N,h⟩;rw[aV,zG,a2a]at h;exact⟨v,N,aX.2 ⟨w,h.2,by rw[h.1]⟩⟩
theorem VX{vs n k}:(n,k)∈XF vs↔k≠[]∧hasK n k vs=true:=by unfold XF hasK;grind
theorem b3o{L}(h:BK L){n w ts}(h1:ts.Pairwise fun a b=>JJ a b=true)(h2:∀t,t∈ts↔cnt plW L (n,w) t≠0):ts=phrase L n [w]:=by
 rw[a6G h h1 h2];unfold phrase;rw[zD sI]
 congr 2
 funext e
 rw[bU,zG,c4y]
theorem b5m{L}(h:BK L){n k ts}(h1:ts.Pairwise fun a b=>JJ a b=true)(h2:∀t,t∈ts↔cnt XF L (n,k) t≠0):ts=GU L n k:=by
 rw[a6G h h1 h2];unfold GU
 by_cases hk:k=[]
 ·rw[zF hk];have:(L.filter fun e=>decide ((n,k)∈XF e.2))=[]:=by
   rw[List.filter_eq_nil_iff];intro e _;rw[zG,VX];exact fun g=>g.1 hk
  rw[this];rfl
 rw[zD hk]
 congr 2
 funext e
 rw[bU,zG,VX];exact⟨fun g=>g.2,fun g=>⟨hk,g⟩⟩
theorem b6P{L} n x w p (N:BK L)(O:∀t vs,KC L t=some vs→p t=ZF n (x::w) vs):(phrase L n [x]).filter p=phrase L n (x::w):=by
 unfold phrase;rw[zD sI,zD sI,eG,List.filter_filter]
 congr 1
 refine fO fun e W=>?_;have h1:KC L e.1=some e.2:=(IK N).2 W;show(p e.1 && ZF n [x] e.2)=ZF n (x::w) e.2;rw[O _ _ h1];cases h2:ZF n (x::w) e.2 with
 |false=>rfl
 |true=>
  rw[dL];unfold ZF at h2 ⊢;rw[dV]at h2 ⊢;obtain⟨v,Z,h3⟩:=h2;rw[aV]at h3;exact⟨v,Z,by rw[aV];exact⟨h3.1,a2a.2 (b6g h3.2)⟩⟩
end Ix
namespace Ix
open Ke
theorem a5V{n k vs}:k∈keysOf n vs↔(n,k)∈XF vs:=by
 rw[VX];unfold keysOf hasK;rw[aY,aX,zG,dV];constructor
 ·rintro⟨⟨v,N,rfl⟩,O⟩;rw[aY,zG]at N;exact⟨O,v,N.1,by simp[N.2]⟩
 rintro⟨O,v,N,h⟩;rw[aV,zG,zG]at h;exact⟨⟨v,aY.2 ⟨N,zH h.1⟩,h.2⟩,O⟩
theorem a1e{pl L}(h:BK L){p}:(∃t,cnt pl L p t≠0)↔∃e∈L,p∈pl e.2:=by
 constructor
 ·rintro⟨t,N⟩;unfold cnt at N;cases hg:KC L t with
  |none=>rw[hg]at N;exact absurd rfl N
  |some vs=>
   rw[hg]at N;exact⟨(t,vs),(IK h).1 hg,aW.1 (aT.2 N)⟩
 rintro⟨⟨t,vs⟩,O,W⟩;refine⟨t,?_⟩;unfold cnt;rw[(IK h).2 O];exact aT.1 (aW.2 W)
theorem WM L n b:Inc (EI L n b):=a5d _ List.Pairwise.nil
theorem QZ{L}(h:BK L){n b k}:k∈EI L n b↔¬k<b∧∃t,cnt XF L (n,k) t≠0:=by
 unfold EI;rw[b2p,a1e h,aY,fP,zG];constructor
 ·rintro(⟨⟨e,N,O⟩,W⟩|g)
  ·exact⟨W,e,N,a5V.1 O⟩
  cases g
 rintro⟨W,e,N,O⟩;exact .inl ⟨⟨e,N,a5V.2 O⟩,W⟩
theorem RY {L : Ix} (h : BK L) {n b : Bs} {ls : List (Bs × Nat)} (h1 : Inc (ls.map (·.1))) (h2 : ∀ k, k ∈ ls.map (·.1) ↔ ¬ k < b ∧ ∃ t, cnt XF L (n, k) t ≠ 0) (h3 : ∀ x ∈ ls, x.2 = (GU L n x.1).length) : ls = (EI L n b).map fun k => (k, (GU L n k).length) := by
  have he : ls.map (·.1) = EI L n b := a5N h1 (WM L n b) fun k => by rw [h2, QZ h]
  rw [← he, List.map_map]
  conv => lhs; rw [← List.map_id ls]
  refine List.map_congr_left fun x hx => ?_
  show x = (x.1, (GU L n x.1).length)
  rw [← h3 x hx]
theorem a8v L n s N:((EI L n (keyOf n s)).map fun k=>(k,(GU L n k).length)).take N.toNat=scan L n s N:=by
 unfold scan;rw[←List.map_take]
theorem c1x{L}(h:BK L){n k}{ts:List Rec}(W:ts.Nodup)(h2:∀t,t∈ts↔cnt XF L (n,k) t≠0):ts.length=(GU L n k).length:=by
 have O:(GU L n k).Nodup:=by
  unfold GU
  split
  ·exact .nil
  exact(a8l h).sublist (List.filter_sublist.map _)
 refine List.Perm.length_eq ((List.perm_ext_iff_of_nodup W O).2 fun t=>?_);rw[h2];unfold GU
 by_cases hk:k=[]
 ·rw[zF hk];refine⟨fun g=>?_,fun g=>by cases g⟩;obtain⟨e,_,Z⟩:=(a1e h).1 ⟨t,g⟩;exact absurd hk (VX.1 Z).1
 rw[zD hk,aX];constructor
 ·intro g;unfold cnt at g;cases hg:KC L t with
  |none=>rw[hg]at g;exact absurd rfl g
  |some vs=>
   rw[hg]at g;have:=VX.1 (aW.1 (aT.2 g));exact⟨(t,vs),aY.2 ⟨(IK h).1 hg,this.2⟩,rfl⟩
 rintro⟨⟨u,vs⟩,N,rfl⟩;rw[aY]at N;unfold cnt;rw[(IK h).2 N.1];exact aT.1 (aW.2 (VX.2 ⟨hk,N.2⟩))
end Ix
namespace Ix
open Ke
def a2E:List Bs:=[[69,109,109,97],
 [84,104,101,32,115,101,97],
 [195,156,98,101,114,32,100,101,110,32,70,108,117,195,159],
 [87,97,114,32,97,110,100,32,112,101,97,99,101],
 [119,97,114,32,38,32,80,69,65,67,69],
 [65,117,115,116,101,110,44,32,74,97,110,101],
 [84,111,108,115,116,111,121],
 [49,57,56,52],
 [57,55,56,48,51,48,54,52,48,54,49,53,55],
 [48,51,48,54,52,48,54,49,53,50],
 [76,111,110,100,111,110],
 [83,101,97,32,115,116,111,114,105,101,115],
 [65],
 [],
 [69,109,109,97,32,97,110,100,32,116,104,101,32,115,101,97],
 [49,57,57,57],
 [99,49,57,57,57,46],
 [82,105,118,101,114,115],
 [79,99,101,97,110,115,32,45,45,32,72,105,115,116,111,114,121],
 [112,101,97,99,101]]
def a5X:List Bs:=[[48,48,49],
 [50,52,53],
 [49,48,48],
 [48,50,48],
 [54,53,48],
 [55,48,48],
 [50,54,48],
 [53,48,48],
 [57,48,48],
 [57,52,57],
 [48,48,56],
 [50,52,54],
 [54,48,48],
 [49,49,48],
 [52,57,48],
 [48,48,51],
 [57,122,57],
 [50,52],
 [57,57,57],
 [48]]
def a1M:List Bs:=[[49,48],
 [32,32],
 [49,32],
 [48,48],
 [48,32],
 [32,48],
 [51,32],
 [49,50]]
def b0l:Bs:=[97,98,99,48,97,118,120,113]
def a2s (n:Int):Bs:=a2E.getD (n % 20).toNat []
def VO (n:Int):Bs:=a5X.getD (n % 20).toNat []
structure Four where
  x0:Int
  x1:Int
  x2:Int
  x3:Int
def b5q (q:Four) (j:Nat):Sub:=⟨b0l.getD ((q.x2.tdiv 3+(j:Int)*(1+q.x1 % 3)) % 8).toNat 0,a2s (Go.IntKind.wrap .i64 (q.x3+3*(j:Int)))⟩
def isC (t:Bs):Prop:=1<t.length∧t.take 2=[48,48]
instance (t:Bs):Decidable (isC t):=by unfold isC;exact inferInstance
def a4R (q:Four):LV:=if isC (VO q.x0)then⟨VO q.x0,[],a2s q.x3,.slice none 0 0,[]⟩
 else⟨VO q.x0,a1M.getD (q.x1 % 8).toNat [],[],.slice none 0 0,(List.range (1+(q.x2 % 3).toNat)).map fun j=>b5q q j⟩
def WL (l:List Four):List LV:=(l.take 20).map a4R
structure KD where
  drop:Bool
  src:Int
  num:Int
  fs:List Four
def KD.title (a:KD):Rec:=(a.src,a.num)
def KD.record (a:KD):List LV:=WL (a.fs.take 8)
def KD.vs (a:KD):List V:=vals a.record
def act (L:Ix) (a:KD):Ix:=if a.drop=true then UO a.title L else KY a.title a.vs L
def play (l:List KD):Ix:=(l.take 20).foldl act []
theorem b3W{L}(h:BK L) a:BK (act L a):=by grind [act,a0c,VN]
theorem a5x:∀(l:List KD) {L:Ix},BK L→BK (l.foldl act L)
 |[],_,h=>h
 |a::r,_,h=>a5x r (b3W h a)
theorem c0d l:BK (play l):=a5x _ List.Pairwise.nil
theorem c0Z q:(a4R q).tag.length≤3∧(a4R q).subs.length≤3:=by
 have h1:∀k:Nat,(a5X.getD k []).length≤3:=by
  intro k;rcases dB k 20 with h|h
  ·have:∀k,k<20→(a5X.getD k []).length≤3:=dE;exact this k h
  rw[dM,fA (by simpa[a5X]using h)];simp
 unfold a4R
 split
 ·exact⟨h1 _,sI⟩
 refine⟨h1 _,?_⟩;simp only[bI,List.length_range];omega
theorem b6S n:(a2s n).length≤17:=by
 unfold a2s;generalize (n % 20).toNat=k;rcases dB k 20 with h|h
 ·have:∀k,k<20→(a2E.getD k []).length≤17:=dE;exact this k h
 rw[dM,fA (by simpa[a2E]using h)];simp
end Ix
namespace Ix
open Ke
open Go Go.Lib
theorem PK c:digit c=decide (48≤c.toNat∧c.toNat≤57):=by simp_all[digit,bU,aV,zG,UInt8.le_iff_toNat_le]
def ZN (r:Nat):Bool:=decide (r<48) || decide (57<r)
theorem decodeL_N c r:decodeL (c::r)=decodeN (r.length+1) c.toNat (r.getD 0 0).toNat (r.getD 1 0).toNat (r.getD 2 0).toNat:=by
 have:=decode_N ⟨(c::r).toArray⟩ 0;simp only[bG,Nat.sub_zero,Nat.zero_add,List.getD_cons_zero,List.getD_cons_succ]at this;exact this
theorem a9S c r (h:128≤c.toNat):128≤(decodeL (c::r)).1∧∀x∈(c::r).take (decodeL (c::r)).2,128≤x.toNat:=by
 have key:∀k n:Nat,(128≤k∧∀x∈(c::r).take n,128≤x.toNat)→128≤((k,n):Nat×Nat).1∧∀x∈(c::r).take ((k,n):Nat×Nat).2,128≤x.toNat:=fun _ _ h=>h;have h1:128≤((65533,1):Nat×Nat).1∧∀x∈(c::r).take ((65533,1):Nat×Nat).2,128≤x.toNat:=⟨dE,fun x N=>by simp at N;rw[N];exact h⟩;rw[decodeL_N];unfold decodeN;rw[zD oM]
 split
 ·rename_i g
  split
  ·refine key _ _ ⟨oM,fun x N=>?_⟩;rcases r with _|⟨d,r⟩
   ·simp at N;rw[N];exact h
   simp at N g;rcases N with rfl|rfl
   ·exact h
   omega
  exact h1
 split
 ·rename_i g
  split
  ·refine key _ _ ⟨oM,fun x N=>?_⟩;rcases r with _|⟨d,_|⟨e,r⟩⟩
   ·simp at N;rw[N];exact h
   ·simp at g
   simp at N g;rcases N with rfl|rfl|rfl
   ·exact h
   ·omega
   omega
  exact h1
 split
 ·rename_i g
  split
  ·refine key _ _ ⟨oM,fun x N=>?_⟩;rcases r with _|⟨d,_|⟨e,_|⟨f,r⟩⟩⟩
   ·simp at N;rw[N];exact h
   ·simp at g
   ·simp at g
   simp at N g;rcases N with rfl|rfl|rfl|rfl
   ·exact h
   ·omega
   ·omega
   omega
  exact h1
 exact h1
theorem a9h:∀(q:Bs) (w r:Bs),(∀x∈q,digit x=false)→q≠[]→GH w (q++r)=(if w=[]then[]else[w])++GH [] r
 |[],_,_,_,h=>absurd rfl h
 |[c],w,r,h,_=>by
  show GH w (c::r)=_;rw[GH,h c (.head _)];simp only[aN,if_false]
  split<;>rfl
 |c::d::q,w,r,h,_=>by
  have N:=a9h (d::q) [] r (fun x O=>h x (.tail _ O)) sI;rw[zF rfl,dD]at N;show GH w (c::((d::q)++r))=_;rw[GH,h c (.head _),N];simp only[aN,if_false]
  split<;>rfl
theorem a8E w c r (h:digit c=true):GH w (c::r)=GH (w++[c]) r:=by rw[GH,zF h]
theorem a2K s:∀(f pos:Nat) (O:Option Nat) (N:List (Nat×Nat)),s.size≤pos+f→pos≤s.size→(∀a,O=some a→a<pos)→
 N.map (fun p=>pieceU s.data.toList p.1 p.2)++GH (openPiece s.data.toList O pos) (s.data.toList.drop pos)=(closeSpans s (spansFromP ZN s f pos O N)).map (fun p=>pieceU s.data.toList p.1 p.2)
 |0,pos,O,N,h,hp,hst=>by
  obtain rfl:pos=s.size:=oM;have hd:s.data.toList.drop s.size=[]:=eU (by rw[←size_eq];exact aU _);rw[hd,GH];cases O with
  |none=>simp[spansFromP,closeSpans,openPiece]
  |some a=>
   have:=pieceU_ne s.data.toList a s.size (hst a rfl) (by rw[←size_eq];exact aU _);simp[spansFromP,closeSpans,openPiece,this]
 |f+1,pos,O,N,h,hp,hst=>by
  by_cases hlt:pos<s.size
  ·have a3:pos<s.data.toList.length:=by rw[←size_eq];exact hlt
   have a1:decodeL (s.data.toList.drop pos)=bF s pos:=decodeL_drop s pos;obtain⟨c,Z⟩:∃c,s.data.toList.drop pos=c::s.data.toList.drop (pos+1):=⟨s.data.toList[pos],(eX a3).symm⟩;have hw:=width_pos s pos;have a2:pos+(bF s pos).2≤s.size:=by
    have:=decodeN_le_n' (s.size-pos) (s.get! pos).toNat (s.get! (pos+1)).toNat (s.get! (pos+2)).toNat (s.get! (pos+3)).toNat oM;rw[←decode_at]at this;omega
   simp only[spansFromP,zF hlt]
   by_cases hdig:digit c=true
   ·have a7:48≤c.toNat∧c.toNat≤57:=by rw[PK]at hdig;exact zA hdig
    have h1:bF s pos=(c.toNat,1):=by
     rw[←a1,Z];rw[decodeL_N];unfold decodeN;rw[zF oM]
    have h2:ZN c.toNat=false:=by unfold ZN;simp;omega
    rw[h1];simp only[h2,aN,if_false];rw[Z,a8E _ _ _ hdig];cases O with
    |none=>
     have W:=a2K s f (pos+1) (some pos) N oM oM (fun a h=>by cases h;omega);have e:openPiece s.data.toList none pos++[c]=openPiece s.data.toList (some pos) (pos+1):=by
      show[]++[c]=pieceU s.data.toList pos (pos+1);unfold pieceU;rw[Z,Nat.add_sub_cancel_left];rfl
     rw[e];exact W
    |some a=>
     have W:=a2K s f (pos+1) (some a) N oM oM (fun b h=>by cases h;have:=hst a rfl;omega);have e:openPiece s.data.toList (some a) pos++[c]=openPiece s.data.toList (some a) (pos+1):=by
      have:=pieceU_grow s.data.toList a pos 1 (by have:=hst a rfl;omega);rw[Z]at this;exact this
     rw[e];exact W
   have h3:ZN (bF s pos).1=true∧∀x∈(s.data.toList.drop pos).take (bF s pos).2,digit x=false:=by
    rw[←a1,Z]
    by_cases h128:c.toNat<128
    ·have h1:decodeL (c::s.data.toList.drop (pos+1))=(c.toNat,1):=by
      rw[decodeL_N];unfold decodeN;rw[zF h128]
     rw[h1];refine⟨?_,fun x hx=>?_⟩
     ·rw[PK,zG]at hdig;unfold ZN;simp;omega
     simp at hx;rw[hx];simpa using hdig
    obtain⟨_,g2⟩:=a9S c (s.data.toList.drop (pos+1)) oM;refine⟨by unfold ZN;simp;omega,fun x hx=>?_⟩;have:=g2 x hx;rw[PK];simp;omega
   have a0:s.data.toList.drop pos=(s.data.toList.drop pos).take (bF s pos).2++s.data.toList.drop (pos+(bF s pos).2):=by
    rw[←fV,bK]
   have a4:(s.data.toList.drop pos).take (bF s pos).2≠[]:=by
    intro h0;have:=zC List.length h0;rw[bM,List.length_drop]at this;simp at this;omega
   simp only[h3.1,if_true];rw[a0,a9h _ _ _ h3.2 a4];cases O with
   |none=>
    have W:=a2K s f (pos+(bF s pos).2) none N oM a2 (fun a h=>by cases h);simpa[openPiece]using W
   |some a=>
    have a5:=pieceU_ne s.data.toList a pos (hst a rfl) (by rw[←size_eq];omega);have W:=a2K s f (pos+(bF s pos).2) none (N++[(a,pos)]) oM a2 (fun a h=>by cases h);simpa[openPiece,a5]using W
  have a6:pos=s.size:=oM;have hd:s.data.toList.drop pos=[]:=eU (by rw[←size_eq];omega);rw[spansFromP_end ZN s _ pos O N hlt,hd,GH];subst a6;cases O with
  |none=>simp[closeSpans,openPiece]
  |some a=>
   have:=pieceU_ne s.data.toList a s.size (hst a rfl) (by rw[←size_eq];exact aU _);simp[closeSpans,openPiece,this]
theorem a7p(s:ByteArray) a b:s.extract a b=⟨(pieceU s.data.toList a b).toArray⟩:=by
 apply ByteArray.ext
 rw[ByteArray.data_extract]
 apply Array.ext'
 rw[Array.toList_extract];unfold pieceU;simp[List.extract_eq_take_drop]
theorem fieldsD s:goFieldsP ZN ⟨s.toArray⟩=(QE s).map fun x=>⟨x.toArray⟩:=by
 have h:=a2K ⟨s.toArray⟩ (ByteArray.mk s.toArray).size 0 none [] oM oM (fun _ h=>by cases h);simp only[gK,dD,openPiece,fZ]at h;unfold goFieldsP spansOfP QE;rw[h,bW];refine List.map_congr_left fun p _=>?_;rw[a7p];rfl
theorem a6e:∀(d w r:Bs),(∀x∈d,digit x=true)→GH w (d++r)=GH (w++d) r
 |[],w,r,_=>by rw[dD,aB]
 |c::d,w,r,h=>by
  show GH w (c::(d++r))=_;rw[a8E _ _ _ (h c (.head _)),a6e d _ r fun x N=>h x (.tail _ N),dQ];rfl
theorem b3l w r (h:r=[]∨∃c q,r=c::q∧digit c=false):GH w r=(if w=[]then[]else[w])++GH [] (r.drop 1):=by
 rcases h with rfl|⟨c,q,rfl,N⟩
 ·rw[GH,List.drop_nil,GH,zF rfl,aB]
 rw[GH,N];simp only[aN,if_false,List.drop_one,List.tail_cons]
 split<;>rfl
theorem a9j t:KT t=if (t.takeWhile digit).length=4 then some (t.take 4)else KT (t.drop ((t.takeWhile digit).length+1)):=by
 have N:t.takeWhile digit++t.dropWhile digit=t:=List.takeWhile_append_dropWhile;have hd:∀x∈t.takeWhile digit,digit x=true:=fun x hx=>List.all_eq_true.1 List.all_takeWhile x hx;have hr:t.dropWhile digit=[]∨∃c q,t.dropWhile digit=c::q∧digit c=false:=by
  cases h:t.dropWhile digit with
  |nil=>exact .inl rfl
  |cons c q=>
   refine .inr ⟨c,q,rfl,?_⟩;have:=List.head?_dropWhile_not digit t;rw[h]at this;simpa using this
 have O:t.take (t.takeWhile digit).length=t.takeWhile digit:=by
  have h:=List.take_left (l₁:=t.takeWhile digit) (l₂:=t.dropWhile digit)
  rwa [N]at h
 have Z:(t.dropWhile digit).drop 1=t.drop ((t.takeWhile digit).length+1):=by
  have:t.drop (t.takeWhile digit).length=t.dropWhile digit:=by
   have h:=List.drop_left (l₁:=t.takeWhile digit) (l₂:=t.dropWhile digit)
   rwa [N]at h
  rw[←this,fV]
 have a0:QE t=(if t.takeWhile digit=[]then[]else[t.takeWhile digit])++QE (t.drop ((t.takeWhile digit).length+1)):=by
  unfold QE
  conv=>lhs;rw[←N]
  rw[a6e _ _ _ hd,dD,b3l _ _ hr,Z]
 unfold KT;rw[a0,List.find?_append]
 by_cases h4:(t.takeWhile digit).length=4
 ·rw[zF h4];have W:t.takeWhile digit≠[]:=by intro h0;rw[h0]at h4;cases h4
  rw[zD W];have hf:[t.takeWhile digit].find? (fun x=>decide (x.length=4))=some (t.takeWhile digit):=by simp[h4]
  rw[hf];rw[h4]at O;rw[O];rfl
 rw[zD h4]
 by_cases W:t.takeWhile digit=[]
 ·rw[zF W];rfl
 have hf:[t.takeWhile digit].find? (fun x=>decide (x.length=4))=none:=by simp[h4]
 rw[zD W,hf];rfl
theorem b9N:KT []=none:=rfl
end Ix
namespace Go.Sx
open Go Go.RowKit
theorem yY.c5A{P f args I T l vals}(hv:vals=l.map str)(he:Enters P f)
 (h:∀w,Calls P f args.toArray w fun e w'=>∃A,e= .returned (.slice (some ⟨A,0,none⟩) l.length l.length)∧w.heap.size≤A∧w'.ownsRow w.heap.size T 1 (.slice (some ⟨A,0,none⟩) l.length l.length) l.length vals∧Below w.heap.size w w'):
 yY P f args I [] (fun e I' H'=>∃v,e= .returned v∧IG T I' l v∧H'=[]):=by
 refine⟨he,fun w hw=>(h w).mono ?_⟩;rintro e w' ⟨A,rfl,hA,N,O⟩;obtain⟨r1,-,-,-⟩:=hw;have a0:∀{b:Nat} {o:Obj},I b=some o→b<w.heap.size:=fun {b o} W=>by
  have:=r1 b o W;rcases dB b w.heap.size with h'|h'
  ·exact h'
  rw[eY h']at this;cases this
 obtain⟨-,N⟩:=N;obtain⟨g,cap,Z,hs,-,hc,_,-,_,a3⟩:=N.resolve_left fun g=>by cases g.1
 cases hs;have a1:(.cells Z T (0,0):Obj)=yX T (l.map str++Z.toList.drop l.length):=by
  unfold yX;rw[←hv,←a3,Nat.mul_one,bK]
 rw[a1]at hc;have a4:St w [] I I [(A,yX T (l.map str++Z.toList.drop l.length))] w':=
  ⟨O.os,O.tape,O.output,O.size,fun b W _=>O.block b W,fun b o W=>by rw[O.block b (a0 W)];exact r1 b o W,fun p hp=>by rw[aJ.1 hp];exact hc,sI,fun p hp=>by
   rw[aJ.1 hp];cases hI:I A with
   |none=>rfl
   |some o=>have:=a0 hI;omega,fun p hp=>by rw[aJ.1 hp];exact .inr hA,fun _ _=>rfl,gB _,a4V⟩
 have a2:=a4.persist hA;exact⟨_,_,a2,_,rfl,.inr ⟨A,l.length,_,rfl,aU _,YR _ _ _⟩,rfl⟩
theorem yY.c4l{P f args I T}{l:List (List UInt8)}{vals}(hv:vals=l.map str)(he:Enters P f)
 (h:∀w,(∀b o,I b=some o→w.heap[b]?=some o)→Calls P f args.toArray w fun e w'=>∃A,e= .returned (.slice (some ⟨A,0,none⟩) l.length l.length)∧w.heap.size≤A∧w'.ownsRow w.heap.size T 1 (.slice (some ⟨A,0,none⟩) l.length l.length) l.length vals∧Below w.heap.size w w'):
 yY P f args I [] (fun e _ H'=>∃b sp,e= .returned (.slice (some ⟨b,0,none⟩) l.length l.length)∧H'=[(b,yX T (l.map str++sp))]):=by
 refine⟨he,fun w hw=>(h w hw.1).mono ?_⟩;rintro e w' ⟨A,rfl,hA,N,O⟩;obtain⟨r1,-,-,-⟩:=hw;have a0:∀{b:Nat} {o:Obj},I b=some o→b<w.heap.size:=fun {b o} W=>by
  have:=r1 b o W;rcases dB b w.heap.size with h'|h'
  ·exact h'
  rw[eY h']at this;cases this
 obtain⟨-,N⟩:=N;obtain⟨g,cap,Z,hs,-,hc,_,-,_,a2⟩:=N.resolve_left fun g=>by cases g.1
 cases hs;have a1:(.cells Z T (0,0):Obj)=yX T (l.map str++Z.toList.drop l.length):=by
  unfold yX;rw[←hv,←a2,Nat.mul_one,bK]
 rw[a1]at hc;have a3:St w [] I I [(A,yX T (l.map str++Z.toList.drop l.length))] w':=
  ⟨O.os,O.tape,O.output,O.size,fun b W _=>O.block b W,fun b o W=>by rw[O.block b (a0 W)];exact r1 b o W,fun p hp=>by rw[aJ.1 hp];exact hc,sI,fun p hp=>by
   rw[aJ.1 hp];cases hI:I A with
   |none=>rfl
   |some o=>have:=a0 hI;omega,fun p hp=>by rw[aJ.1 hp];exact .inr hA,fun _ _=>rfl,gB _,a4V⟩
 exact⟨_,_,a3,_,_,rfl,rfl⟩
end Go.Sx
section
namespace Go.Proofs.YtekmeaoblpfnpaaGreatDoor
open _root_.Go.Proofs.Tryz
open Go Go.Sx
def sel (codes:List UInt8) (s:dW):Bool:=decide (codes=[]) || codes.contains s.code
def VF (codes:List UInt8) (ss:List dW):List (List UInt8):=(ss.filter (sel codes)).map (·.text)
def a0i (f:gQ) (codes:List UInt8):List UInt8:=Ke.join (VF codes f.subs)
theorem RZ{f codes}(h:codes≠[]):a0i f codes=aP f codes:=by
 unfold a0i aP Ke.texts VF
 congr 2
 refine fO fun s _=>?_;unfold sel;rw[zI h];rfl
theorem XB f:a0i f []=Ix.NS f:=by
 unfold a0i Ix.NS VF;rw[show f.subs.filter (sel [])=f.subs from dH.2 fun _ _=>rfl]
theorem b9U{codes}{ss:List dW}{k s}(h:ss[k]?=some s):VF codes (ss.take (k+1))=VF codes (ss.take k)++(if sel codes s=true then[s.text]else[]):=by
 obtain⟨N,O⟩:=aG.1 h;unfold VF;rw[aI N,O,bH,aA]
 by_cases hc:sel codes s=true
 ·rw[zF hc,List.filter_cons_of_pos hc];rfl
 rw[zD hc,dZ hc];rfl
theorem a7C codes ss:(VF codes ss).length≤ss.length:=by
 unfold VF;rw[bI];exact List.length_filter_le _ _
theorem b4B codes:∀ss:List dW,((VF codes ss).map List.length).sum≤CZ ss
 |[]=>by simp[VF]
 |s::r=>by
  have:=b4B codes r;unfold VF CZ at this ⊢;rw[List.filter_cons]
  split
  ·simp only[aH,fF];omega
  simp only[aH,fF];omega
theorem WX f codes:(a0i f codes).length≤CZ f.subs+f.subs.length:=by
 have h1:=RX (VF codes f.subs);have h2:=b4B codes f.subs;have h3:=a7C codes f.subs;unfold a0i;omega
theorem a5z{ss s}(h:s∈ss):s.text.length≤CZ ss:=by
 unfold CZ
 induction ss with
 |nil=>cases h
 |cons a r N=>
  rw[aH,fF];rcases aF.1 h with e|e
  ·rw[e];omega
  have:=N e;omega
abbrev four (x:List UInt8):Bool:=decide (x.length=4)
def VB {α:Type} (p:α→Bool) (l:List α):Int:=match l.findIdx? p with
 |some k=>(k:Int)
 |none=> -1
theorem XD{α:Type}{p:α→Bool}{l:List α}(h:∀x∈l,p x=false):VB p l= -1:=by
 unfold VB;rw[List.findIdx?_eq_none_iff.2 fun x N=>by simpa using h x N]
theorem a1g{α:Type}{p:α→Bool}{l:List α}{k}{x:α}(h:∀y∈l.take k,p y=false)(O:l[k]?=some x)(W:p x=true):VB p l=(k:Int):=by
 obtain⟨N,Z⟩:=aG.1 O;unfold VB;have:l.findIdx? p=some k:=by
  rw[List.findIdx?_eq_some_iff_getElem];refine⟨N,by rw[Z];exact W,fun j _=>?_⟩;have h1:l[j]'oM∈l.take k:=by
   rw[List.mem_take_iff_getElem];exact⟨j,oM,rfl⟩
  rw[h _ h1];exact Bool.false_ne_true
 rw[this]
theorem UA{α:Type}{p:α→Bool}{l:List α}{k x}(h:∀y∈l.take k,p y=false)(W:l[k]?=some x)(Z:p x=false):∀y∈l.take (k+1),p y=false:=fun y N=>by
 obtain⟨O,hg⟩:=aG.1 W;rw[aI O,hg,aK,aJ]at N;rcases N with N|rfl
 ·exact h y N
 exact Z
theorem MZ{α:Type} p l:(VB p l= -1∧l.find? p=none)∨∃(k:Nat) (x:α),VB p l=(k:Int)∧l[k]?=some x∧l.find? p=some x:=by
 by_cases h:∃k,∃x,l[k]?=some x∧p x=true∧∀y∈l.take k,p y=false
 ·obtain⟨k,x,h1,h2,h3⟩:=h;refine .inr ⟨k,x,a1g h3 h1 h2,h1,?_⟩;obtain⟨_,Z⟩:=aG.1 h1;rw[List.find?_eq_some_iff_append];refine⟨h2,l.take k,l.drop (k+1),?_,fun y N=>by simp[h3 y N]⟩;rw[←Z,eX,bK]
 have O:∀k,k≤l.length→∀y∈l.take k,p y=false:=by
  intro k
  induction k with
  |zero=>intro _ y N;simp at N
  |succ k ih=>
   intro _;have W:=BM (l:=l) (i:=k) oM;have h1:=ih oM;refine UA h1 W ?_;cases hp:p l[k]with
   |false=>rfl
   |true=>exact absurd ⟨k,_,W,hp,h1⟩ h
 have h2:∀y∈l,p y=false:=fun y N=>O l.length (aU _) y (by rw[List.take_length];exact N);exact .inl ⟨XD h2,List.find?_eq_none.2 fun y N=>by simp[h2 y N]⟩
theorem SX{f c}(h:f.ind[1]?=some c):fB f=if fQ c=true then c.toNat-48 else 0:=by
 unfold fB;rw[h]
theorem VZ{I l v}:EY I l v↔zS (fun s=>[str s]) I l v:=by
 unfold EY zS;rw[show l.map str=l.flatMap fun s=>[str s] by induction l with|nil=>rfl|cons a r N=>rw[aH,cO,N];rfl]
theorem OL f codes (hn:f.subs.length≤2000000)(ai:CZ f.subs≤3000000) I (hr:zS MQ I f.subs f.sv):Pure aS 150 [.agg (FZ f).toArray,str codes] I (str (a0i f codes)):=by
 refine bP ?_;obtain⟨p2,c2,ab,a3,ac⟩:=hr;refine zQ func150 fun w0 _=>?_;refine yU 3 ?_;intro _ _;refine yU 13 ?_;refine dX 9 (.slice p2 f.subs.length c2) rfl ab ?_;refine yU 5 ?_;refine gG (aZ gU) ?_;refine fK (ι:=Nat×Gs) (fun j=>j.1≤f.subs.length∧BL w0.heap.size 1 (VF codes (f.subs.take j.1)).length ((VF codes (f.subs.take j.1)).map str) j.2) (fun j=>f.subs.length-j.1) (fun j=>[(1,str codes),(5,gV (VF codes (f.subs.take j.1)).length j.2),(9,.slice p2 f.subs.length c2),(10,i64 (f.subs.length:Int)),(11,i64 (j.1:Int))]) (fun j=>_) (fun j=>gH 9 ((VF codes (f.subs.take j.1)).map str) j.2) (0,none) ⟨dJ _,rfl,rfl⟩ rT rfl rfl ?_;rintro⟨j,g⟩ ⟨hj,Z⟩;dsimp only at hj Z ⊢;have ad:=a7C codes (f.subs.take j);rw[bM,eH hj]at ad;refine zK ?_ ?_<;>intro a3 a6
 ·refine yU 5 ?_;have a4:j<f.subs.length:=oM;obtain⟨sb,W⟩:∃x,f.subs[j]?=some x:=⟨_,BM a4⟩;obtain⟨_,so,_,_,_,_,rfl,a7,ae⟩:=ac (zU a4);have N:=b9U (codes:=codes) W;refine zW (so+j*2) ?_;refine J.z (BJ isAgg176 a0B (fC a7) (BF JW ae W)) ?_;refine yU 1 ?_;intro _ _;refine EK ?_ ?_<;>intro a0 a8
  ·have O:sel codes sb=true:=by unfold sel;rw[zH (CO a0)];rfl
   rw[zF O]at N;refine yU 14 ?_;intro b6 _;refine RD 15 [_,_] Z ?_;intro g7 af;refine yU 8 ?_;refine bY (aZ (aZ bT)) ?_;refine bJ (j+1,g7) ⟨dO,by dsimp only;rw[N,aA,aC];exact af⟩ dO ⟨rfl,by dsimp only;rw[N,aC];rfl,rfl,rfl,rfl,trivial⟩ rfl (by dsimp only;rw[N,aA];rfl)
  have a5:codes≠[]:=CW a0;refine zX (a3m _ _ _) ?_;refine zK ?_ ?_<;>intro a1 a9
  ·have O:sel codes sb=true:=by unfold sel;rw[zI a5,←a8m];exact a1
   rw[zF O]at N;refine yU 5 ?_;intro _ _;refine RD 15 [_,_] Z ?_;intro ag aa;refine yU 8 ?_;refine bY (aZ (aZ bT)) ?_;refine bJ (j+1,ag) ⟨dO,by dsimp only;rw[N,aA,aC];exact aa⟩ dO ⟨rfl,by dsimp only;rw[N,aC];rfl,rfl,rfl,rfl,trivial⟩ rfl (by dsimp only;rw[N,aA];rfl)
  have O:¬sel codes sb=true:=by unfold sel;rw[zI a5,←a8m];exact fun e=>cZ (e.symm.trans a1)
  rw[zD O]at N;refine yU 7 ?_;refine bY (aZ bT) ?_;refine bJ (j+1,g) ⟨dO,by dsimp only;rw[N,aB];exact Z⟩ dO ⟨rfl,by dsimp only;rw[N,aB];rfl,rfl,rfl,rfl,trivial⟩ rfl (by dsimp only;rw[N,aB])
 refine yU 6 ?_;have a2:f.subs.take j=f.subs:=aO oM;rw[a2]at Z ⊢;have ah:=WX f codes;refine Cj.perm (H':=gH _ _ _++[]) (.of_eq (aB _)) ?_;refine Cj.RU Z (fun _ _ hv=>?_);refine zX (a6W (VF codes f.subs) _ (by have:=a7C codes f.subs;omega) (by have e:Ke.join (VF codes f.subs)=a0i f codes:=rfl;rw[e];omega) _ hv) ?_;refine zV ?_;exact rT
theorem c4h f (hi:f.ind.length≤2000000) I:Pure aS 148 [.agg (FZ f).toArray] I (i64 ((Ix.OH f:Nat):Int)):=by
 refine bP ?_;refine zQ func148 fun w0 _=>?_;refine yU 3 ?_;intro _ _;refine EK ?_ ?_<;>intro Z a4
 ·have N:f.tag=[50,52,53]:=CO Z;refine EK ?_ ?_<;>intro a0 a5
  ·have a1:1<f.ind.length:=by have h:=ED a0;omega
   obtain⟨c,O⟩:∃c,f.ind[1]?=some c:=⟨_,BM a1⟩;refine yU 2 ?_;refine J.zg (CB rfl rfl rfl BQ oM O) ?_;refine EK ?_ ?_<;>intro a2 a6
   ·have a8:48≤c.toNat:=by have h:=ED a2;omega
    refine yU 2 ?_;refine J.zg (CB rfl rfl rfl BQ oM O) ?_;refine zK ?_ ?_<;>intro a3 a7
    ·have a9:c.toNat≤57:=by have h:=ED a3;omega
     have W:fQ c=true:=by rw[Ix.PK];simp only[zG];omega
     refine yU 4 ?_;refine J.z (CB rfl rfl rfl BQ oM O) ?_;refine J.z (RI rfl rfl rfl (w8 oM)) ?_;refine yU 1 ?_;refine dX 28 (i64 ((c.toNat-48:Nat):Int)) rfl (zC i64 ((IU oM).trans oM)) ?_;refine AB ?_;rw[show Ix.OH f=fB f from zF N];rw[SX O,zF W];exact rT
    have W:¬fQ c=true:=by rw[Ix.PK];have h:=FQ a3;simp only[zG];omega
    refine AB ?_;rw[show Ix.OH f=fB f from zF N];rw[SX O,zD W];exact rT
   have W:¬fQ c=true:=by rw[Ix.PK];have h:=FQ a2;simp only[zG];omega
   refine AB ?_;rw[show Ix.OH f=fB f from zF N];rw[SX O,zD W];exact rT
  have a1:¬1<f.ind.length:=by have h:=FQ a0;omega
  refine AB ?_;rw[show Ix.OH f=fB f from zF N];rw[b4n a1];exact rT
 have N:¬f.tag=[50,52,53]:=CW Z;refine AB ?_;rw[show Ix.OH f=0 from zD N];exact rT
theorem c1H s I:Pure aS 259 [str s] I (.bool (decide (s.length=4))):=by
 refine bP ?_;refine zQ func259 fun w0 _=>?_;refine yU 10 ?_;refine dX 5 (.bool (decide (s.length=4))) rfl (zC Value.bool (by rw[bU,beq_iff_eq,zG];omega)) ?_;refine zV ?_;exact rT
theorem b2F(c:Nat) I:Pure aS 257 [.int .i32 (c:Int)] I (.bool (Ix.ZN c)):=by
 refine bP ?_;refine zQ func257 fun w0 _=>?_;refine EK ?_ ?_<;>intro N O
 ·refine zV ?_;have e:Ix.ZN c=true:=by unfold Ix.ZN;have h:=ED N;rw[zH (oM:c<48)];rfl
  rw[e];exact rT
 refine zV ?_;refine⟨?_,rfl⟩;have h:=FQ N;unfold Ix.ZN;rw[zI (oM:¬c<48),Bool.false_or];exact zC (fun b=>Ending.returned (Value.bool b)) (decide_eq_decide.2 oM)
theorem a9w s (N:s.length≤4000000000) I:yY aS 256 [str s,.func (.func 257) #[] #[]] I [] (fun e I' H'=>∃v,e= .returned v∧IG 9 I' (Ix.QE s) v∧H'=[]):=by
 have hz:∀x:Nat,x≤1114111→∀W:World,Calls aS 257 #[.int .i32 (x:Int)] W fun e w'=>e= .returned (.bool (Ix.ZN x))∧RowKit.Below W.heap.size W w':=fun x _ W=>by
  have h:=(b2F x (fun _=>none)).2 W (by unfold Ready;exact⟨(fun b o hb=>by cases hb),(fun p O=>by cases O),List.Pairwise.nil,(fun p O=>by cases O)⟩);exact h.mono fun e w' ⟨I',H',N,h1,_⟩=>⟨h1,N.os,N.tape,N.output,N.size,fun k hk=>N.frm k hk sI⟩
 have Z:Lib.goFieldsP Ix.ZN ⟨s.toArray⟩=(Ix.QE s).map fun x=>⟨x.toArray⟩:=Ix.fieldsD s;refine yY.c5A (vals:=((Ix.QE s).map fun x=>(⟨x.toArray⟩:ByteArray)).map Value.string) (by rw[bW];rfl) (Enters.of func256 dE rfl) fun w=>?_;have h:=Tryz.strings_FieldsFunc_grows 257 #[] (enters_of func257 kR rfl) Ix.ZN ⟨s.toArray⟩ w (by rw[size_mk];omega) (fun W x hx _=>hz x hx W);rw[Z,bI]at h;exact h
theorem a9y l v W g cap (hl:l.length≤100000000000000) I (hr:EY I l v)(a3:∀x∈l,Pure aS g (str x::cap) I (.bool (W x))):Pure aS 258 [v,.func (.func g) #[] cap.toArray] I (i64 (VB W l)):=by
 refine bP ?_;obtain⟨p,c,rfl,_,hp⟩:=hr;refine zQ func258 fun w0 _=>?_;refine yU 14 ?_;refine fK (ι:=Nat) (fun j=>j≤l.length∧∀x∈l.take j,W x=false) (fun j=>l.length-j) (fun j=>[(0,.slice p l.length c),(1,.func (.func g) #[] cap.toArray),(7,i64 (l.length:Int)),(8,i64 (j:Int))]) (fun j=>I) (fun j=>[]) 0 ⟨dJ _,fun g hg=>by simp at hg⟩ rT rfl rfl ?_;rintro j ⟨_,N⟩;refine zK ?_ ?_<;>intro a4 a2
 ·have a1:j<l.length:=oM;obtain⟨x,O⟩:∃x,l[j]?=some x:=⟨_,BM a1⟩;obtain⟨_,fo,_,_,_,sp,rfl,a5,a6⟩:=hp (zU a1);refine zW (fo+j) ?_;refine J.z (DU CU (fC a5) (JV a6 O)) ?_;refine zX (a3 x (CX O)) ?_;refine DI ?_ ?_<;>intro Z
  ·have ht:W x=true:=Z;refine zV ?_;rw[a1g N O ht];exact rT
  have a7:W x=false:=Z;refine yU 7 ?_;refine bJ (j+1) ⟨oM,UA N O a7⟩ oM rT rfl rfl
 have a0:l.take j=l:=aO oM;rw[a0]at N;refine zV ?_;rw[XD N];exact rT
theorem a0b:∀(s w:List UInt8),(Ix.GH w s).length≤s.length+w.length
 |[],w=>by
  unfold Ix.GH
  split
  ·simp
  rename_i h;have:0<w.length:=fG.2 h;simp only[bG,bV];omega
 |c::r,w=>by
  unfold Ix.GH
  split
  ·have:=a0b r (w++[c]);rw[aC]at this;simp only[bG,bV]at this ⊢;omega
  split
  ·have:=a0b r [];simp only[bV,bG]at this ⊢;omega
  rename_i h
  have:=a0b r [];have h2:0<w.length:=fG.2 h;simp only[bV,bG]at this ⊢;omega
theorem b8j s:(Ix.QE s).length≤s.length:=by
 have:=a0b s [];exact this
theorem c1M s (hs:s.length≤100000000) I:Pure aS 215 [str s] I (.tuple #[str ((Ix.KT s).getD []),.bool (Ix.KT s).isSome]):=by
 refine bP ?_;have a4:=b8j s;refine zQ func215 fun w0 _=>?_;refine AP (a9w s oM _) ?_;intro _ _ _ _ a0;obtain⟨_,h,hl,rfl⟩:=a0;cases h;refine zX (a9y (Ix.QE s) _ four 259 [] oM _ (EY.of hl) (fun x _=>c1H x _)) ?_;refine zK ?_ ?_<;>intro Z N
 ·have O:Ix.KT s=none:=((MZ four (Ix.QE s)).resolve_right (fun⟨k,x,h,_⟩=>by rw[h]at N;omega)).2;refine zV ?_;rw[O];exact rT
 obtain⟨k,y,a1,W,O⟩:=(MZ four (Ix.QE s)).resolve_left (fun h=>by rw[h.1]at N;omega);obtain⟨_,_,_,rfl,a2⟩:=hl.some (fun e=>by rw[e]at W;cases W);rw[a1];have a3:=(aG.1 W).1;refine zW k ?_;refine J.z (DU CU (fC a2) (FT W)) ?_;refine zV ?_;rw[show Ix.KT s=some y from O];exact rT
end Go.Proofs.YtekmeaoblpfnpaaGreatDoor
end
section
namespace Go.Proofs.YtekmeaoblpfnpaaGreatDoor
open _root_.Go.Proofs.Tryz
open Go Go.Sx
def OC (u:List UInt8→List UInt8×Bool) (code:UInt8) (s:dW):Option (List UInt8):=if (u s.text).2=true∧s.code=code then some (u s.text).1 else none
def uy (s:List UInt8):List UInt8×Bool:=((Ix.KT s).getD [],(Ix.KT s).isSome)
theorem b3G:OC uy 99=Ix.yr:=by
 funext s
 unfold OC uy Ix.yr
 by_cases h:s.code=99
 ·rw[zF h];cases hy:Ix.KT s.text with
  |none=>simp
  |some y=>simp[h]
 rw[zD h,zD (fun g=>h g.2)]
theorem b4a{u code}{ss:List dW}{k s}(h:ss[k]?=some s):(ss.take (k+1)).filterMap (OC u code)=(ss.take k).filterMap (OC u code)++(if (u s.text).2=true∧s.code=code then[(u s.text).1]else[]):=by
 obtain⟨N,O⟩:=aG.1 h;rw[aI N,O,List.filterMap_append]
 by_cases hc:(u s.text).2=true∧s.code=code
 ·rw[zF hc];simp[OC,hc]
 rw[zD hc];simp[OC,hc]
theorem pre_eq{s p:List UInt8}(h:p.length≤s.length):p.isPrefixOf s=((s.take p.length).drop 0 == p):=by
 rw[fZ,bU,bQ,beq_iff_eq,List.prefix_iff_eq_take];exact⟨fun e=>e.symm,fun e=>e.symm⟩
theorem b6U{s p:List UInt8}(h:¬p.length≤s.length):p.isPrefixOf s=false:=by
 rw[fM,Ne,bQ];exact fun e=>h e.length_le
theorem JQ{T I l v}(h:IG T I l v):∃p c,v= .slice p l.length c:=by
 rcases h with⟨rfl,rfl⟩|⟨b,c,sp,rfl,_,_⟩
 ·exact⟨none,0,rfl⟩
 exact⟨_,c,rfl⟩
theorem a2N{I l a b w}(h:IG 9 I l w)(N:fD a=true)(O:fD b=true):[a,b,w].all fD=true:=by
 obtain⟨p,c,rfl⟩:=JQ h;simp only[List.all_cons,List.all_nil,N,O,Bool.and_true,dL];rfl
def RH (fs:List gQ):Prop:=fs.length≤1000∧∀f∈fs,f.subs.length≤1000∧CZ f.subs≤3000000∧f.ind.length≤2000000
abbrev VW:=Ix.V×Value
def ZU (x:VW):List Value:=[str x.1.name,str x.1.key,x.2]
theorem YN x:(ZU x).length=3:=rfl
def OI (I:Heap) (xs:List VW) (vs:List Ix.V):Prop:=xs.map (·.1)=vs∧∀x∈xs,IG 9 I x.1.ws x.2
theorem OI.mono{I N xs vs}(h:OI I xs vs)(O:Le I N):OI N xs vs:=⟨h.1,fun x W=>(h.2 x W).mono O⟩
theorem OI.len{I xs vs}(h:OI I xs vs):xs.length=vs.length:=by rw[←h.1,bI]
theorem OI.add{I xs vs}(h:OI I xs vs){v w}(N:IG 9 I v.ws w):OI I (xs++[(v,w)]) (vs++[v]):=
 ⟨by rw[aA,h.1];rfl,fun x O=>by
  rcases aK.1 O with g|g
  ·exact h.2 x g
  rw[aJ.1 g];exact N⟩
def RP (I:Heap) (vs:List Ix.V) (v:Value):Prop:=∃xs,PU 142 ZU I xs v∧OI I xs vs
theorem RP.mono{I O vs v}(h:RP I vs v)(N:Le I O):RP O vs v:=let ⟨xs,h1,h2⟩:=h;⟨xs,h1.mono N,h2.mono N⟩
theorem a7U f (h:f.subs.length≤1000):(Ix.named f).2.length≤1000:=by
 unfold Ix.named
 repeat' split
 all_goals first
  |exact FD (dY _ _) h
  |simp
theorem b4z{p:dW→Option (List UInt8)}{ss:List dW}{s:List UInt8}{n:Nat}(N:∀x∈ss,∀y,p x=some y→y.length≤n)(h:s∈ss.filterMap p):s.length≤n:=by
 obtain⟨x,O,W⟩:=List.mem_filterMap.1 h;exact N x O s W
theorem a1F s:(Ke.OT s).1.length≤13:=by
 unfold Ke.OT Ke.a2i
 split
 ·simp only[aC,bM,bG,bV];omega
 split
 ·rename_i h;have:=h.1;dsimp only;omega
 simp
theorem a5Q{s y}(h:Ix.KT s=some y):y.length=4:=by
 have h1:=eF h;exact ED h1
theorem a1C{f s}(h:s∈(Ix.named f).2):s.length≤CZ f.subs+f.subs.length+13:=by
 have O:∀c:List UInt8,(aP f c).length≤CZ f.subs+f.subs.length:=a1t f;unfold Ix.named at h
 repeat' split at h
 all_goals first
  |(rw[aJ]at h;rw[h];have:=O [97,98];have:=O [97];have:=O [97,120];omega)
  |(refine FD (b4z (n:=13) (fun x _ y N=>?_) h) oM;unfold Ke.isb at N;split at N;(cases N;exact a1F _);cases N)
  |(refine FD (b4z (n:=13) (fun x _ y N=>?_) h) oM;unfold Ix.yr at N;split at N;(have:=a5Q N;omega);cases N)
  |cases h
theorem b6O f (h:f.subs.length≤1000):(Ix.TT f).length≤1001:=by
 have:=a7U f h;unfold Ix.TT;rw[aC,bI]
 split<;>simp<;>omega
theorem a8H fs (h:RH fs) j:(Ix.vals (fs.take j)).length≤j*1001:=by
 induction j with
 |zero=>simp[Ix.vals]
 |succ j O=>
  rcases dB j fs.length with N|N
  ·rw[aI N];unfold Ix.vals at O ⊢;rw[bC,aC];have:=b6O fs[j] (h.2 _ (List.getElem_mem N)).1;simp only[cO,List.flatMap_nil,aB];omega
  rw[aO N]at O;rw[aO (show fs.length≤j+1 by omega)];exact FD O (Nat.mul_le_mul_right _ (Nat.le_succ j))
theorem a3B{fs:List gQ}{j f}(h:fs[j]?=some f):Ix.vals (fs.take (j+1))=Ix.vals (fs.take j)++Ix.TT f:=by
 obtain⟨N,O⟩:=aG.1 h;rw[aI N,O];unfold Ix.vals;rw[bC];simp
abbrev nv (f:gQ) (s:List UInt8):Ix.V:=⟨(Ix.named f).1,s,Ix.OH f⟩
theorem RV{α β:Type}(g:α→β){l:List α}{k x}(h:l[k]?=some x):(l.take (k+1)).map g=(l.take k).map g++[g x]:=by
 obtain⟨N,O⟩:=aG.1 h;rw[aI N,O,aA];rfl
structure VA where
  j:Nat
  J:Heap
  xs:List VW
  g:Gs
theorem a9x s p (Z:p.length≤1000000) I:Pure aS 216 [str s,str p] I (.bool (p.isPrefixOf s)):=by
 refine bP ?_;refine zQ func216 fun w0 _=>?_;refine EK ?_ ?_<;>intro N W
 ·have O:p.length≤s.length:=by have h:=ED N;omega
  refine yU 3 ?_;refine J.zg (CP (p:=0) (q:=p.length) rfl rfl BQ rfl ⟨_,rfl⟩ oM oM) ?_;refine zV ?_;refine⟨?_,rfl⟩;rw[pre_eq O]
 have O:¬p.length≤s.length:=by have h:=FQ N;omega
 refine zV ?_;rw[b6U O];exact rT
theorem a2J s p (N:p.length≤1000000) I:Pure aS 149 [str s,str p] I (.bool (p.isPrefixOf s)):=by
 refine bP ?_;refine zQ func149 fun w0 _=>?_;refine zX (a9x s p N _) ?_;refine zV ?_;exact rT
theorem a2G f code g0 u (hn:f.subs.length≤2000000)(ad:CZ f.subs≤3000000)(hu:∀s J,s.length≤100000000→Pure aS g0 [str s] J (.tuple #[str (u s).1,.bool (u s).2])) I (hr:zS MQ I f.subs f.sv):yY aS 214 [.agg (FZ f).toArray,u8 code,.func (.func g0) #[] #[]] I []
 (fun e I' H'=>∃v,e= .returned v∧IG 9 I' (f.subs.filterMap (OC u code)) v∧H'=[]):=by
 obtain⟨p2,c2,a8,a3,a9⟩:=hr;refine zQ func214 fun w0 _=>?_;refine yU 3 ?_;intro _ _;refine yU 13 ?_;refine dX 13 (.slice p2 f.subs.length c2) rfl a8 ?_;refine yU 5 ?_;refine gG (aZ gU) ?_;refine fK (ι:=Nat×Gs) (fun j=>j.1≤f.subs.length∧BL w0.heap.size 1 ((f.subs.take j.1).filterMap (OC u code)).length (((f.subs.take j.1).filterMap (OC u code)).map str) j.2) (fun j=>f.subs.length-j.1) (fun j=>[(1,u8 code),(2,.func (.func g0) #[] #[]),(7,gV ((f.subs.take j.1).filterMap (OC u code)).length j.2),(13,.slice p2 f.subs.length c2),(14,i64 (f.subs.length:Int)),(15,i64 (j.1:Int))]) (fun j=>_) (fun j=>gH 9 (((f.subs.take j.1).filterMap (OC u code)).map str) j.2) (0,none) ⟨dJ _,rfl,rfl⟩ rT rfl rfl ?_;rintro⟨j,g⟩ ⟨hj,W⟩;dsimp only at hj W ⊢;have aa:=dY (OC u code) (f.subs.take j);rw[bM,eH hj]at aa;refine zK ?_ ?_<;>intro a3 a5
 ·refine yU 5 ?_;have a4:j<f.subs.length:=oM;obtain⟨sb,O⟩:∃x,f.subs[j]?=some x:=⟨_,BM a4⟩;obtain⟨_,so,_,_,_,_,rfl,a6,ab⟩:=a9 (zU a4);have ae:=a5z (CX O);have N:=b4a (u:=u) (code:=code) O;refine zW (so+j*2) ?_;refine J.z (BJ isAgg176 a0B (fC a6) (BF JW ab O)) ?_;refine yU 1 ?_;intro _ _;refine zX (hu sb.text _ oM) ?_;refine EK ?_ ?_<;>intro Z a7
  ·have a0:sb.code=code:=UInt8.toNat_inj.1 (by have h:=CO Z;omega);refine DI ?_ ?_<;>intro a1
   ·rw[zF ⟨a1,a0⟩]at N;refine yU 4 ?_;intro b6 _;refine RD 15 [_,_] W ?_;intro g7 ac;refine yU 8 ?_;refine bY (aZ (aZ bT)) ?_;refine bJ (j+1,g7) ⟨dO,by dsimp only;rw[N,aA,aC];exact ac⟩ dO ⟨rfl,rfl,by dsimp only;rw[N,aC];rfl,rfl,rfl,rfl,trivial⟩ rfl (by dsimp only;rw[N,aA];rfl)
   rw[zD (fun g=>cZ (g.1.symm.trans a1))]at N;refine yU 7 ?_;refine bY (aZ bT) ?_;refine bJ (j+1,g) ⟨dO,by dsimp only;rw[N,aB];exact W⟩ dO ⟨rfl,rfl,by dsimp only;rw[N,aB];rfl,rfl,rfl,rfl,trivial⟩ rfl (by dsimp only;rw[N,aB])
  have a0:sb.code≠code:=fun e=>CW Z (by rw[e]);rw[zD (fun g=>a0 g.2)]at N;refine yU 12 ?_;refine bY (aZ bT) ?_;refine bJ (j+1,g) ⟨dO,by dsimp only;rw[N,aB];exact W⟩ dO ⟨rfl,rfl,by dsimp only;rw[N,aB];rfl,rfl,rfl,rfl,trivial⟩ rfl (by dsimp only;rw[N,aB])
 refine yU 6 ?_;have a2:f.subs.take j=f.subs:=aO oM;rw[a2]at W ⊢;refine Cj.perm (H':=gH _ _ _++[]) (.of_eq (aB _)) ?_;refine Cj.RU W (fun _ _ hv=>?_);refine zV ?_;exact⟨_,rfl,hv,rfl⟩
theorem named_ok f (Z:f.subs.length≤2000000)(W:CZ f.subs≤3000000) I (O:zS MQ I f.subs f.sv):yY aS 147 [.agg (FZ f).toArray] I []
 (fun e I' H'=>∃v,e= .returned (.tuple #[str (Ix.named f).1,v])∧IG 9 I' (Ix.named f).2 v∧H'=[]):=by
 refine zQ func147 fun w0 _=>?_;refine yU 3 ?_;intro _ _;refine zK ?_ ?_<;>intro b9 aj
 ·refine zX (OL f [97,98] Z W _ O) ?_;refine dX 10 (str (aP f [97,98])) rfl (zC str (RZ (bD _ _))) ?_;refine yU 1 ?_;intro b4 ba;refine yU 7 ?_;have N:Ix.named f=(Ix.KW,[aP f [97,98]]):=by simp[Ix.named, *]
  rw[N];refine bZ ba (fun _ al am=>?_);have O:=O.mono al;refine AB ?_;exact⟨_,rfl,.inr ⟨b4,1,[],rfl,aU _,am⟩,rfl⟩
 refine zK ?_ ?_<;>intro bb an
 ·refine zX (OL f [97,98] Z W _ O) ?_;refine dX 10 (str (aP f [97,98])) rfl (zC str (RZ (bD _ _))) ?_;refine yU 1 ?_;intro b8 bc;refine yU 7 ?_;have N:Ix.named f=(Ix.KW,[aP f [97,98]]):=by simp[Ix.named, *]
  rw[N];refine bZ bc (fun _ ao ap=>?_);have O:=O.mono ao;refine AB ?_;exact⟨_,rfl,.inr ⟨b8,1,[],rfl,aU _,ap⟩,rfl⟩
 refine zK ?_ ?_<;>intro aq a0
 ·refine zX (OL f [97] Z W _ O) ?_;refine dX 17 (str (aP f [97])) rfl (zC str (RZ (bD _ _))) ?_;refine yU 1 ?_;intro bd ar;refine yU 7 ?_;have N:Ix.named f=(Ix.KN,[aP f [97]]):=by simp[Ix.named, *]
  rw[N];refine bZ ar (fun _ a1 a2=>?_);have O:=O.mono a1;refine AB ?_;exact⟨_,rfl,.inr ⟨bd,1,[],rfl,aU _,a2⟩,rfl⟩
 refine zK ?_ ?_<;>intro au a3
 ·refine zX (OL f [97] Z W _ O) ?_;refine dX 17 (str (aP f [97])) rfl (zC str (RZ (bD _ _))) ?_;refine yU 1 ?_;intro be av;refine yU 7 ?_;have N:Ix.named f=(Ix.KN,[aP f [97]]):=by simp[Ix.named, *]
  rw[N];refine bZ av (fun _ a4 a5=>?_);have O:=O.mono a4;refine AB ?_;exact⟨_,rfl,.inr ⟨be,1,[],rfl,aU _,a5⟩,rfl⟩
 refine zK ?_ ?_<;>intro aw a6
 ·refine zX (OL f [97] Z W _ O) ?_;refine dX 17 (str (aP f [97])) rfl (zC str (RZ (bD _ _))) ?_;refine yU 1 ?_;intro bf ax;refine yU 7 ?_;have N:Ix.named f=(Ix.KN,[aP f [97]]):=by simp[Ix.named, *]
  rw[N];refine bZ ax (fun _ a7 a8=>?_);have O:=O.mono a7;refine AB ?_;exact⟨_,rfl,.inr ⟨bf,1,[],rfl,aU _,a8⟩,rfl⟩
 refine zK ?_ ?_<;>intro ay a9
 ·refine zX (OL f [97,120] Z W _ O) ?_;refine dX 23 (str (aP f [97,120])) rfl (zC str (RZ (bD _ _))) ?_;refine yU 1 ?_;intro bg az;refine yU 7 ?_;have N:Ix.named f=(Ix.KU,[aP f [97,120]]):=by simp[Ix.named, *]
  rw[N];refine bZ az (fun _ aa ab=>?_);have O:=O.mono aa;refine AB ?_;exact⟨_,rfl,.inr ⟨bg,1,[],rfl,aU _,ab⟩,rfl⟩
 refine zK ?_ ?_<;>intro b0 ac
 ·refine zX (OL f [97,120] Z W _ O) ?_;refine dX 23 (str (aP f [97,120])) rfl (zC str (RZ (bD _ _))) ?_;refine yU 1 ?_;intro bh b1;refine yU 7 ?_;have N:Ix.named f=(Ix.KU,[aP f [97,120]]):=by simp[Ix.named, *]
  rw[N];refine bZ b1 (fun _ ad ae=>?_);have O:=O.mono ad;refine AB ?_;exact⟨_,rfl,.inr ⟨bh,1,[],rfl,aU _,ae⟩,rfl⟩
 refine zK ?_ ?_<;>intro b2 af
 ·refine AP (a2G f 97 137 Ke.OT Z W (fun s J h=>b4G s h J) _ O) ?_;intro _ _ _ ag b3;have O:=O.mono ag;obtain⟨vl,h,hv,rfl⟩:=b3;cases h;refine yU 7 ?_;have N:Ix.named f=(Ix.MX,f.subs.filterMap Ke.isb):=by simp[Ix.named, *]
  rw[N];refine AB ?_;exact⟨_,rfl,hv,rfl⟩
 refine zK ?_ ?_<;>intro hc40 ah
 ·refine AP (a2G f 99 215 uy Z W (fun s J h=>c1M s h J) _ O) ?_;intro _ _ _ ai hp45;have O:=O.mono ai;obtain⟨vl,h,hv,rfl⟩:=hp45;cases h;refine yU 7 ?_;have N:Ix.named f=(Ix.a0p,f.subs.filterMap Ix.yr):=by simp[Ix.named, *]
  rw[N];refine AB ?_;rw[←b3G];exact⟨_,rfl,hv,rfl⟩
 refine yU 10 ?_;have N:Ix.named f=([],[]):=by simp[Ix.named, *]
 rw[N];refine AB ?_;exact⟨_,rfl,.inl rT,rfl⟩
theorem a4q fs v rk rl (aa:RH fs) I (ah:QX I fs v):yY aS 95 [a7w rk rl v] I []
 (fun e I' H'=>∃w,e= .returned w∧RP I' (Ix.vals fs) w∧H'=[]):=by
 have bb:=aa.1;obtain⟨p,c,rfl,_,-⟩:=id ah.1;refine zQ func95 fun w0 _=>?_;refine yU 3 ?_;intro _ _;refine yU 18 ?_;refine gG (aZ gU) ?_;refine fK (ι:=VA) (fun y=>y.j≤fs.length∧Le I y.J∧OI y.J y.xs (Ix.vals (fs.take y.j))∧BL w0.heap.size 3 y.xs.length (y.xs.flatMap ZU) y.g) (fun y=>fs.length-y.j) (fun y=>[(3,gV y.xs.length y.g),(12,.slice p fs.length c),(13,i64 (fs.length:Int)),(14,i64 (y.j:Int))]) (fun y=>y.J) (fun y=>gH 142 (y.xs.flatMap ZU) y.g) ⟨0,_,[],none⟩ ⟨dJ _,gB _,⟨rfl,fun x hx=>by cases hx⟩,rfl,rfl⟩ rT rfl rfl ?_;rintro⟨j,_,xs,g⟩ ⟨hj,W,O,hg⟩;dsimp only at hj W O hg ⊢;have hr:=ah.mono W;have ai:=O.len;have bc:=a8H fs aa j;refine zK ?_ ?_<;>intro ay an
 ·have aj:j<fs.length:=by omega
  obtain⟨f,a4⟩:∃f,fs[j]?=some f:=⟨_,BM aj⟩;have al:=CX a4;obtain⟨az,am,b0⟩:=aa.2 f al;obtain⟨⟨p1,c1,b1,_,hp⟩,ab⟩:=id hr;cases b1;obtain⟨fb,fo,_,_,_,sp,rfl,a2,b2⟩:=hp (zU aj);have a0:=ab f al;clear ab;obtain⟨p2,c2,hsv,-,-⟩:=id a0;have bd:=a7U f az;have ao:=WX f [];rw[XB]at ao;refine zW (fo+j*4) ?_;refine J.z (BJ isAgg108 WO (fC a2) (BF a2l b2 a4)) ?_;refine yU 1 ?_;intro b3 _;refine J.op rfl (CS 0 rfl rfl rfl rfl rfl (b9z hsv) WO rfl rfl (dF (dF (dF (dF fE)))) AU.z ?_);refine AP (named_ok f (by omega) am _ a0) ?_;intro _ I5 _ a5 b4;have hr:=hr.mono a5;have O:=O.mono a5;have W:=W.mono a5;have a2:=a5 _ _ a2;have a0:=a0.mono a5;obtain⟨_,h,a3,rfl⟩:=b4;cases h;obtain⟨lp,lc,rfl⟩:=JQ a3;refine yU 16 ?_;refine gG (Keeps.k bT) ?_;refine fK (ι:=VA) (fun y=>y.j≤(Ix.named f).2.length∧Le I5 y.J∧OI y.J y.xs (Ix.vals (fs.take j)++((Ix.named f).2.take y.j).map (nv f))∧BL w0.heap.size 3 y.xs.length (y.xs.flatMap ZU) y.g) (fun y=>(Ix.named f).2.length-y.j) (fun y=>[(3,gV y.xs.length y.g),(5,ptr b3 0),(6,str (Ix.named f).1),(12,.slice (some ⟨fb,fo,none⟩) fs.length c),(13,i64 (fs.length:Int)),(14,i64 (j:Int)),(23,.slice lp (Ix.named f).2.length lc),(24,i64 ((Ix.named f).2.length:Int)),(25,i64 (y.j:Int))]) (fun y=>y.J) (fun y=>(b3,yX 108 (FZ f))::gH 142 (y.xs.flatMap ZU) y.g) ⟨0,_,xs,g⟩ ⟨dJ _,gB _,by dsimp only;rw[List.take_zero,gK,aB];exact O,hg⟩ rT rfl rfl ?_;rintro⟨q,_,xs,g⟩ ⟨hq,a1,O,hg⟩;dsimp only at hq a1 O hg ⊢;have W:=W.mono a1;have hr:=hr.mono a1;have a0:=a0.mono a1;have a3:=a3.mono a1;have a2:=a1 _ _ a2;have ai:=O.len;rw[aC,bI,bM,eH hq]at ai;refine zK ?_ ?_<;>intro b8 ap
  ·have ac:q<(Ix.named f).2.length:=by omega
   obtain⟨s,a7⟩:∃s,(Ix.named f).2[q]?=some s:=⟨_,BM ac⟩;have be:=a1C (CX a7);obtain⟨lb,_,_,aq,ad⟩:=a3.some (zU ac);cases aq;refine zW q ?_;refine J.z (DU CU (fC ad) (FT a7)) ?_;refine zX (c4h f b0 _) ?_;refine zX (a0U s ((Ix.OH f:Nat):Int) (by omega) _) ?_;refine AP (SA s (by omega) _) ?_;intro _ _ _ N ar;have hr:=hr.mono N;have O:=O.mono N;have a0:=a0.mono N;have a3:=a3.mono N;have a2:=N _ _ a2;have W:=W.mono N;have a1:=a1.mono N;have ad:=N _ _ ad;obtain⟨_,h,ae,rfl⟩:=ar;cases h;obtain⟨_,_,rfl⟩:=JQ ae;refine J.z (zN (pl:= #[(0,1),(1,1),(2,1)]) rfl rfl a3K rfl a0m (fun w=>by simp[a0R,AV]) (dK rfl rfl rfl (dF fE) (dK rfl rfl rfl (fJ (dF fE)) (dK rfl rfl rfl (fJ (fJ (dF fE))) FB.none)))) ?_;refine J.op rfl (ER a4b UJ a3K (EH.agg rfl EH.none) ?_);intro _ _;refine J.op rfl (AQ (by':=55) [_,_] rfl rfl rfl rfl rfl a4b (.inr ⟨_,a4b⟩) (by kernel_rfl) UJ a3K rfl hg rfl (Src.slice (yZ.at 0 rfl) rfl rfl (a2N ae rfl rfl)) (by omega) ?_);intro b9 au;refine yU 8 ?_;refine bY (aZ (Keeps.k bT)) ?_;refine bJ ⟨q+1,_,xs++[(nv f s,_)],b9⟩ ⟨by dsimp only;omega,a1,by dsimp only;rw[RV (nv f) a7,←dQ];exact O.add ae,by dsimp only;rw[aC,bC];exact au⟩ (by dsimp only;omega) ⟨by dsimp only;rw[aC];rfl,rfl,rfl,rfl,rfl,rfl,rfl,rfl,rfl,trivial⟩ rfl (by dsimp only;rw[bC];rfl)
  rw[aO (by omega:(Ix.named f).2.length≤q)]at O;refine zX (a2J f.tag [48,48] (by decide) _) ?_;refine FM ?_ ?_<;>intro a8
  ·refine zX (a2J f.tag [57] (by decide) _) ?_;refine DI ?_ ?_<;>intro a9
   ·have a6:Ix.RS f=true:=by unfold Ix.RS;rw[aV];exact⟨a8,a9⟩
    refine zX (OL f [] (by omega) am _ a0) ?_;refine dX 52 (str (Ix.NS f)) rfl (zC str (XB f)) ?_;refine zX (a0U (Ix.NS f) 0 (by omega) _) ?_;refine AP (SA (Ix.NS f) (by omega) _) ?_;intro _ _ _ Z av;have hr:=hr.mono Z;have O:=O.mono Z;have a0:=a0.mono Z;have a3:=a3.mono Z;have a2:=Z _ _ a2;have W:=W.mono Z;have a1:=a1.mono Z;obtain⟨_,h,af,rfl⟩:=av;cases h;obtain⟨_,_,rfl⟩:=JQ af;refine J.z (zN (pl:= #[(0,1),(1,1),(2,1)]) rfl rfl a3K rfl a0m (fun w=>by simp[a0R,AV]) (dK rfl rfl rfl (dF fE) (dK rfl rfl rfl (fJ (dF fE)) (dK rfl rfl rfl (fJ (fJ (dF fE))) FB.none)))) ?_;refine J.op rfl (ER a4b UJ a3K (EH.agg rfl EH.none) ?_);intro _ _;refine J.op rfl (AQ (by':=55) [_,_] rfl rfl rfl rfl rfl a4b (.inr ⟨_,a4b⟩) (by kernel_rfl) UJ a3K rfl hg rfl (Src.slice (yZ.at 0 rfl) rfl rfl (a2N af rfl rfl)) (by omega) ?_);intro ba aw;refine yU 8 ?_;refine bY (aZ (aZ bT)) ?_;refine bJ ⟨j+1,_,xs++[(⟨Ix.PI,Ix.NS f,0⟩,_)],ba⟩ ⟨by dsimp only;omega,W,by dsimp only;rw[a3B a4];unfold Ix.TT;rw[zF a6,←dQ];exact O.add af,by dsimp only;rw[aC,bC];exact aw⟩ (by dsimp only;omega) ⟨by dsimp only;rw[aC];rfl,rfl,rfl,rfl,trivial⟩ rfl (by dsimp only;rw[bC];rfl)
   have a6:¬Ix.RS f=true:=by unfold Ix.RS;rw[aV];exact fun e=>cZ (e.2.symm.trans a9)
   refine yU 7 ?_;refine bY (aZ bT) ?_;refine bJ ⟨j+1,_,xs,g⟩ ⟨by dsimp only;omega,W,by dsimp only;rw[a3B a4];unfold Ix.TT;rw[zD a6,aB];exact O,by dsimp only;exact hg⟩ (by dsimp only;omega) rT rfl rfl
  have a6:¬Ix.RS f=true:=by unfold Ix.RS;rw[aV];exact fun e=>cZ (e.1.symm.trans a8)
  refine yU 15 ?_;refine bY (aZ bT) ?_;refine bJ ⟨j+1,_,xs,g⟩ ⟨by dsimp only;omega,W,by dsimp only;rw[a3B a4];unfold Ix.TT;rw[zD a6,aB];exact O,by dsimp only;exact hg⟩ (by dsimp only;omega) rT rfl rfl
 refine yU 6 ?_;have ag:fs.take j=fs:=aO (by omega);rw[ag]at O;refine Cj.perm (H':=gH _ _ _++[]) (.of_eq (aB _)) ?_;refine Cj.c6c YN (by decide) hg rfl (fun _ ax hv=>?_);have O:=O.mono ax;refine zV ?_;exact⟨_,rfl,⟨xs,hv,O⟩,rfl⟩
end Go.Proofs.YtekmeaoblpfnpaaGreatDoor
end
namespace Go.Sx
open Go
section
variable {α β:Type}
variable {cx:Cx} {Q:Qt} {en:Env} {f:β→List Value} {sz:Nat} {T:TypeId} {R:HL} {c:Code}
end
section
variable {α β:Type} [BEq α] [LawfulBEq α]
abbrev kvp (p:α×Value×Nat):α×Value:=(p.1,p.2.1)
def a3g (l:List (α×Value)) (a:α):Option Value:=match l with
 |[]=>none
 |(b,v)::r=>if a == b then some v else a3g r a
def a3z (l:List (α×Value)) (a:α) (v:Value):List (α×Value):=match l with
 |[]=>[(a,v)]
 |(b,u)::r=>if a == b then(b,v)::r else(b,u)::a3z r a v
omit [LawfulBEq α] in
theorem b0z a:∀l:ML α,AA l a=a3g (l.map kvp) a
 |[]=>rfl
 |(b,v,n)::r=>by simp only[AA,aH,a3g,b0z a r]
omit [LawfulBEq α] in
theorem b2e a v c:∀l:ML α,(BD l a v c).map kvp=a3z (l.map kvp) a v
 |[]=>rfl
 |(b,u,n)::r=>by
  simp only[BD,aH,a3z]
  split
  ·rfl
  rw[aH,b2e a v c r]
theorem b3z{a u v B}:∀{A:List (α×Value)},a ∉ A.map (·.1)→a3z (A++(a,u)::B) a v=A++(a,v)::B∧a3g (A++(a,u)::B) a=some u
 |[],_=>by simp[a3z,a3g]
 |(b,w)::A,h=>by
  rw[aH,aF,not_or]at h;obtain⟨h1,h2⟩:=b3z (u:=u) (v:=v) (B:=B) h.2;have N:(a == b)=false:=by simpa using h.1
  simp only[fU,a3z,a3g,N,aN,if_false,h1,h2,and_self]
theorem b2b{a v}:∀{A:List (α×Value)},a ∉ A.map (·.1)→a3z A a v=A++[(a,v)]∧a3g A a=none
 |[],_=>rT
 |(b,w)::A,h=>by
  rw[aH,aF,not_or]at h;obtain⟨h1,h2⟩:=b2b (v:=v) h.2;have N:(a == b)=false:=by simpa using h.1
  simp only[fU,a3z,a3g,N,aN,if_false,h1,h2,and_self]
variable {cx:Cx} {Q:Qt} {e:Env} {I:Heap} {H H':HL}
theorem JA.perm{l W A Z z O N}(hs:H'.Perm H)(k:JA cx Q l W A Z z O N e I H'):JA cx Q l W A Z z O N e I H:=fun a w ha h1=>k a w ha (h1.perm hs)
end
section
variable {α β:Type} [BEq α] [LawfulBEq α] [BEq β] [LawfulBEq β]
abbrev OW (α β:Type):=List (α×Nat×ML β×Nat)
abbrev nvp (e:α×Nat×ML β×Nat):α×Value:=(e.1,.map (some e.2.1))
def TW (kv:β→Value) (N:OW α β):HL:=N.map fun e=>(e.2.1,zY kv e.2.2.1 e.2.2.2)
omit [BEq α] [LawfulBEq α] [BEq β] [LawfulBEq β] in
theorem a2M kv (A B:OW α β):TW kv (A++B)=TW kv A++TW kv B:=by unfold TW;rw[aA]
omit [BEq α] [LawfulBEq α] [BEq β] [LawfulBEq β] in
theorem b7K kv (A B:OW α β)(a:α)(b:Nat) m c:((b,zY kv m c)::TW kv (A++B)).Perm (TW kv (A++(a,b,m,c)::B)):=by
 rw[a2M,a2M];exact(List.perm_middle).symm
def cv (n:Nat):Option Value:=if n=0 then none else some (i64 (n:Int))
def bump (f:α→β→Nat) (a:α) (b:β) (d:Nat→Nat) (x:α) (y:β):Nat:=if x == a && y == b then d (f x y)else f x y
structure CJ (l:ML α) (c:Nat) (N:OW α β) (f:α→β→Nat):Prop where
  ms:MS l c
  vals:l.map kvp=N.map nvp
  inn:∀e∈N,MS e.2.2.1 e.2.2.2∧e.2.2.1≠[]∧∀t,AA e.2.2.1 t=cv (f e.1 t)
  out:∀a,a ∉ N.map (·.1)→∀t,f a t=0
omit [BEq α] [LawfulBEq α] [LawfulBEq β] in
theorem CJ.nil:CJ ([]:ML α) 0 ([]:OW α β) (fun _ _=>0):=⟨MS.nil,rfl,fun _ h=>(by cases h),fun _ _ _=>rfl⟩
omit [BEq α] [LawfulBEq α] [BEq β] [LawfulBEq β] in
theorem a5D(N:OW α β):(N.map nvp).map (·.1)=N.map (·.1):=by rw[bW];rfl
omit [BEq α] [LawfulBEq α] [LawfulBEq β] in
theorem CJ.keys{l:ML α}{c:Nat}{N:OW α β}{f:α→β→Nat}(h:CJ l c N f):l.map (·.1)=N.map (·.1):=by
 rw[←a5D N,←h.vals,bW];rfl
omit [BEq α] [LawfulBEq α] [LawfulBEq β] in
theorem CJ.nodup{l:ML α}{c:Nat}{N:OW α β}{f:α→β→Nat}(h:CJ l c N f):(N.map (·.1)).Nodup:=h.keys▸h.ms.1
omit [LawfulBEq β] in
theorem CJ.find{l:ML α}{c:Nat}{N:OW α β}{f:α→β→Nat}(h:CJ l c N f)(a:α):
 (a ∉ N.map (·.1)∧AA l a=none∧∀t,f a t=0)∨∃A b m k B,N=A++(a,b,m,k)::B∧AA l a=some (.map (some b))∧MS m k∧m≠[]∧(∀t,AA m t=cv (f a t))∧a ∉ A.map (·.1)∧a ∉ B.map (·.1):=by
 by_cases ha:a∈N.map (·.1)
 ·obtain⟨⟨W,b,m,k⟩,Z,rfl⟩:=aX.1 ha;obtain⟨A,B,rfl⟩:=fH Z;have O:=h.nodup;rw[aA,aH,dR,eP]at O;have h1:W ∉ A.map (·.1):=fun g=>O.2.2 _ g _ (.head _) rfl;have h2:AA l W=some (.map (some b)):=by
   rw[b0z,h.vals,aA,aH];exact(b3z (v:= .map none) (by rw[a5D];exact h1)).2
  obtain⟨h3,h4,h5⟩:=h.inn _ Z;exact .inr ⟨A,b,m,k,B,rfl,h2,h3,h4,h5,h1,O.2.1.1⟩
 refine .inl ⟨ha,?_,h.out a ha⟩;rw[IW,h.keys];exact ha
theorem CJ.set{l c}{A B:OW α β}{f}{a:α}{b k Z:Nat}{m O:ML β}{t:β}{d:Nat→Nat}(h:CJ l c (A++(a,b,m,k)::B) f)
 (h1:MS O Z)(h2:O≠[])(h3:∀s,AA O s=if s == t then cv (d (f a t))else AA m s):CJ l c (A++(a,b,O,Z)::B) (bump f a t d):=by
 have hn:=h.nodup;rw[aA,aH,dR,eP]at hn;have hA:∀e∈A++B,e.1≠a:=by
  intro e N g;rcases aK.1 N with N|N
  ·exact hn.2.2 _ (dI N) _ (.head _) g
  exact hn.2.1.1 (aX.2 ⟨e,N,g⟩)
 refine⟨h.ms,?_,fun e N=>?_,fun x hx s=>?_⟩
 ·rw[h.vals];simp
 ·have W:e∈A++B∨e=(a,b,O,Z):=by
   rcases aK.1 N with N|N
   ·exact .inl (dG _ N)
   rcases aF.1 N with N|N
   ·exact .inr N
   exact .inl (dA _ N)
  rcases W with N|rfl
  ·obtain⟨g1,g2,g3⟩:=h.inn e (by rcases aK.1 N with N|N;exact dG _ N;exact dA _ (.tail _ N));refine⟨g1,g2,fun s=>?_⟩;have:(e.1 == a)=false:=by simpa using hA e N
   rw[g3];unfold bump;rw[this];rfl
  refine⟨h1,h2,fun s=>?_⟩;dsimp only;rw[h3];obtain⟨_,_,g3⟩:=h.inn (a,b,m,k) sI;unfold bump
  by_cases hs:(s == t)=true
  ·have:=zB hs;subst this;simp
  simp only[hs,if_false,beq_self_eq_true,dL,aN];exact g3 s
 have a0:x ∉ (A++(a,b,m,k)::B).map (·.1):=by simpa using hx
 have a1:(x == a)=false:=by
  have:x≠a:=fun g=>hx (by rw[g];simp);simpa using this
 unfold bump;rw[a1];exact h.out x a0 s
theorem CJ.add{l c N f}{a:α}{b k':Nat}{W}{t:β}{d:Nat→Nat}(h:CJ l c N f)(Z:a ∉ N.map (·.1))
 (h1:MS W k')(h2:W≠[])(h3:∀s,AA W s=if s == t then cv (d 0)else none):CJ (BD l a (.map (some b)) c) (EN l a c) (N++[(a,b,W,k')]) (bump f a t d):=by
 refine⟨h.ms.set a _,?_,fun e O=>?_,fun x hx s=>?_⟩
 ·rw[b2e,h.vals,(b2b (by rw[a5D];exact Z)).1,aA];rfl
 ·rcases aK.1 O with O|O
  ·obtain⟨g1,g2,g3⟩:=h.inn e O;refine⟨g1,g2,fun s=>?_⟩;have:(e.1 == a)=false:=by
    have:e.1≠a:=fun g=>Z (g▸dI O);simpa using this
   rw[g3];unfold bump;rw[this];rfl
  rw[aJ.1 O];refine⟨h1,h2,fun s=>?_⟩;dsimp only;rw[h3,←h.out a Z t];unfold bump
  by_cases hs:(s == t)=true
  ·have:=zB hs;subst this;simp
  simp only[hs,if_false,beq_self_eq_true,dL,aN];rw[h.out a Z s];rfl
 rw[aA,aK,not_or]at hx;have a0:(x == a)=false:=by
  have:x≠a:=by simpa using hx.2
  simpa using this
 unfold bump;rw[a0];exact h.out x hx.1 s
theorem CJ.drop{l c}{A B:OW α β}{f}{a:α}{b k:Nat}{m:ML β}{t:β}{d:Nat→Nat}(h:CJ l c (A++(a,b,m,k)::B) f)
 (h1:∀s,s≠t→f a s=0)(h2:d (f a t)=0):CJ (GL l a) c (A++B) (bump f a t d):=by
 have O:=h.nodup;rw[aA,aH,dR,eP]at O;have Z:∀e∈A++B,e.1≠a:=by
  intro e N g;rcases aK.1 N with N|N
  ·exact O.2.2 _ (dI N) _ (.head _) g
  exact O.2.1.1 (aX.2 ⟨e,N,g⟩)
 refine⟨h.ms.del a,?_,fun e N=>?_,fun x W s=>?_⟩
 ·have h3:(GL l a).map kvp=(l.map kvp).filter fun p=> !(p.1 == a):=by
   rw[LM h.ms.1,eG];rfl
  rw[h3,h.vals,aA,aH,bH,dZ sI,←bH,←aA];rw[dH.2];intro p hp;obtain⟨e,N,rfl⟩:=aX.1 hp;have:=Z e N;simpa using this
 ·obtain⟨g1,g2,g3⟩:=h.inn e (by rcases aK.1 N with N|N;exact dG _ N;exact dA _ (.tail _ N));refine⟨g1,g2,fun s=>?_⟩;have:(e.1 == a)=false:=by simpa using Z e N
  rw[g3];unfold bump;rw[this];rfl
 unfold bump
 by_cases hxa:x=a
 ·subst hxa
  by_cases hs:s=t
  ·subst hs;simp[h2]
  have:(s == t)=false:=by simpa using hs
  simp only[this,Bool.and_false,aN,if_false];exact h1 s hs
 have a0:(x == a)=false:=by simpa using hxa
 rw[a0];refine h.out x ?_ s;rw[aA,aH,aK,aF,not_or,not_or];rw[aA,aK,not_or]at W;exact⟨W.1,hxa,W.2⟩
theorem b9a{m}{g:β→Nat}(O:∀s,AA m s=cv (g s)) t (n:Nat)(N:n≠0) k:∀s,AA (BD m t (i64 (n:Int)) k) s=if s == t then cv n else AA m s:=by
 intro s;rw[OM];unfold cv;rw[zD N]
omit [LawfulBEq β] in
theorem b8U{m}{g:β→Nat}(N:∀s,AA m s=cv (g s)) t:(AA m t).getD (i64 0)=i64 (g t:Int):=by
 rw[N];unfold cv
 split
 ·rename_i h;rw[h];rfl
 rfl
end
section
variable {P:Program} {K i:TypeId} {f0 f1:Field}
theorem a8X{b t}(N:P.underlying t=some .string) a d w:(gI b (d+1) t (str a)).run P w= .ok () w:=by simp[gI,run_underlying N]
theorem a8d{t}(N:P.underlying t=some .string) a b d w:(Op.equalIn (d+1) t (str a) (str b)).run P w= .ok (a == b) w:=by
 have h:((⟨a.toArray⟩:ByteArray) == ⟨b.toArray⟩)=(a == b):=by
  show(a.toArray == b.toArray)=(a == b);simp
 simp[Op.equalIn,run_underlying N,str,h]
theorem ET.c4R(Z:P.underlying K=some (.struct #[f0,f1]))(hp:P.stoodInHeld K=false)(n0:f0.name≠ "_")(n1:f1.name≠ "_")(o0:f0.offset=0)(o1:f1.offset=1)(t0:f0.type=i)(N:f1.type=i)(O:P.underlying i=some .string)(W:∀w,(isAgg i).run P w= .ok false w):
 ET P K (fun a:List UInt8×List UInt8=> .agg #[str a.1,str a.2]):=by
 subst t0;refine ET.equal Z (fun a b=>rfl) (fun a b w=>?_) (fun b a w=>?_) (fun a=>?_)
 ·have h:=a0L Z hp n0 n1 o0 o1 W (N▸W) (x0:=str a.1) (x1:=str a.2) (y0:=str b.1) (y1:=str b.2) w (fun d w=>a8d O a.1 b.1 d w) (fun d w=>a8d (N▸O) a.2 b.2 d w) 9998;exact h
 ·exact a4u Z n0 n1 o0 o1 W (N▸W) b w (fun d w=>a8X O _ d w) (fun d w=>a8X (N▸O) _ d w) 9998
 show gJ (9999+1) _ _=true;have h:=fun x n=>a3a x n;simp[gJ,h]
