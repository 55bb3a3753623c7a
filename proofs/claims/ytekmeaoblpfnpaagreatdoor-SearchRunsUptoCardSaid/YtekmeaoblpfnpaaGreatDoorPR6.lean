/-
  Own texts on the laws of the seat, joined: the logic, and contracts of functions. Conditions: none.
-/
import Derived.Test.YtekmeaoblpfnpaaGreatDoorNmR
import Derived.Test.YtekmeaoblpfnpaaGreatDoorPR5
import Derived.Lib.FieldsP
import Derived.Laws.AppendOwn
set_option linter.all false
set_option maxRecDepth 100000
set_option maxHeartbeats 40000000
open List renaming map_append -> aA,append_nil -> aB,length_append -> aC,mem_cons -> aF,getElem?_eq_some_iff -> aG,map_cons -> aH,take_succ_eq_append_getElem -> aI,mem_singleton -> aJ,mem_append -> aK,take_of_length_le -> aO,pairwise_cons -> aQ,one_le_count_iff -> aW,mem_map -> aX,mem_filter -> aY,flatMap_append -> bC,cons_ne_nil -> bD,length_cons -> bG,filter_append -> bH,length_map -> bI,map_map -> bK,take_append_drop -> bM,length_take -> bP,isPrefixOf_iff_prefix -> bT,length_nil -> bW,flatMap_cons -> cO,mem_append_right -> dA,nil_append -> dD,mem_append_left -> dF,filter_eq_self -> dG,mem_map_of_mem -> dH,getD_eq_getElem?_getD -> dL,pairwise_map -> dM,append_assoc -> dP,nodup_append -> dQ,mem_of_find?_eq_some -> dR,any_eq_true -> dU,length_filterMap_le -> dX,filter_cons_of_neg -> dY,find?_some -> dZ,filter_map -> eF,nodup_cons -> eH,drop_eq_nil_of_le -> eP,getElem_cons_drop -> eU,getElem?_eq_none -> eY,sum_cons -> fD,map_congr_left -> fE,length_pos_iff -> fF,append_of_mem -> fG,filter_congr -> fK,mem_flatMap -> fM,cons_append -> fP,drop_drop -> fQ,drop_zero -> fU,map_nil -> gI
open Bool renaming false_eq_true -> aN,and_eq_true -> aV,eq_iff_iff -> bV,noConfusion -> cZ,true_and -> dK,eq_false_iff -> fJ
open Ke renaming textOf -> aP,Sub -> dV,skip -> fA,digit -> fO,sG -> gJ
open Go.Proofs.Tryz renaming prog -> aS
open Nat renaming one_le_iff_ne_zero -> aT,le_refl -> aU,lt_or_ge -> dB,zero_le -> dI,min_eq_left -> eG
open Go.Sx.Keeps renaming d -> aZ,r -> bU,n -> gK
open Go.Utf8 renaming decode -> bF
open Go.Sx.Ej renaming round -> bJ,keep -> bY,persist -> bZ
open Go.Sx.jO renaming toPure -> bQ
open Go.Sx.pR renaming part -> dJ
open Function renaming comp_def -> dN
open Ne renaming symm -> dS
open Go.Sx.J renaming ev -> dW
open Array renaming getElem?_eq_none -> eX
open Go.Sx.jR renaming EH -> fB
open Go.Value renaming oneCell' -> fC
open Go.Sx.Cj renaming loop -> fH,keep -> fZ
open Go.Sx.Le renaming refl -> fV
open Go.Instr renaming checkKey -> gB,sameBits -> gG
namespace Ix
open Ke
abbrev Rec:=Int×Int
def oN (a b:Rec):Bool:=decide (a.1<b.1) || (decide (a.1=b.1) && decide (a.2<b.2))
theorem CZ{a b}:oN a b=true↔a.1<b.1∨(a.1=b.1∧a.2<b.2):=by simp[oN]
theorem nH a:oN a a=false:=by rw[fJ,Ne,CZ];omega
theorem uO{a b c}(h1:oN a b=true)(h2:oN b c=true):oN a c=true:=by
 rw[CZ]at *;omega
theorem DU a b:oN a b=true∨a=b∨oN b a=true:=by grind [CZ]
section
variable {β:Type}
abbrev Ls (β:Type):=List (Rec×β)
def nO (l:Ls β):Prop:=l.Pairwise fun a b=>oN a.1 b.1=true
def rW (t:Rec) (v:β):Ls β→Ls β
 |[]=>[(t,v)]
 |(u,x)::r=>if oN u t then(u,x)::rW t v r else if u=t then(t,v)::r else(t,v)::(u,x)::r
def AB (t:Rec) (l:Ls β):Ls β:=l.filter fun e=>decide (e.1≠t)
def qK (l:Ls β) (t:Rec):Option β:=(l.find? fun e=>decide (e.1=t)).map (·.2)
theorem wG t v:∀{l:Ls β},nO l→∀e,e∈rW t v l↔e=(t,v)∨(e∈l∧e.1≠t)
 |[],_,e=>by simp[rW]
 |(u,x)::r,h,e=>by
  have A:=aQ.1 h;unfold rW
  by_cases h1:oN u t=true
  ·rw[zF h1,aF,wG t v A.2,aF];have M:u≠t:=fun g=>by rw[g,nH]at h1;cases h1
   constructor
   ·rintro(g|g|g)
    ·exact .inr ⟨.inl g,by rw[g];exact M⟩
    ·exact .inl g
    exact .inr ⟨.inr g.1,g.2⟩
   rintro(g|⟨g|g,h2⟩)
   ·exact .inr (.inl g)
   ·exact .inl g
   exact .inr (.inr ⟨g,h2⟩)
  rw[zD h1]
  by_cases h2:u=t
  ·rw[zF h2,aF,aF];subst h2;constructor
   ·rintro(g|g)
    ·exact .inl g
    refine .inr ⟨.inr g,fun h3=>?_⟩;have:=A.1 e g;rw[h3]at this;simp only[nH]at this;cases this
   rintro(g|⟨g|g,h3⟩)
   ·exact .inl g
   ·exact absurd (by rw[g]) h3
   exact .inr g
  rw[zD h2,aF];have h3:oN t u=true:=((DU u t).resolve_left h1).resolve_left h2;constructor
  ·rintro(g|g)
   ·exact .inl g
   refine .inr ⟨g,fun G=>?_⟩;rcases aF.1 g with g|g
   ·rw[g]at G;exact h2 G
   have:=uO h3 (A.1 e g);rw[G,nH]at this;cases this
  rintro(g|g)
  ·exact .inl g
  exact .inr g.1
theorem BG t v:∀{l:Ls β},nO l→nO (rW t v l)
 |[],_=>List.pairwise_singleton _ _
 |(u,x)::r,h=>by
  have A:=aQ.1 h;unfold rW
  by_cases h1:oN u t=true
  ·rw[zF h1];refine aQ.2 ⟨fun e G=>?_,BG t v A.2⟩;rcases(wG t v A.2 e).1 G with g|g
   ·rw[g];exact h1
   exact A.1 e g.1
  rw[zD h1]
  by_cases h2:u=t
  ·rw[zF h2];subst h2;exact aQ.2 ⟨fun e G=>A.1 e G,A.2⟩
  rw[zD h2];have h3:oN t u=true:=((DU u t).resolve_left h1).resolve_left h2;refine aQ.2 ⟨fun e G=>?_,h⟩;rcases aF.1 G with g|g
  ·rw[g];exact h3
  exact uO h3 (A.1 e g)
theorem JV t {l:Ls β}(h:nO l):nO (AB t l):=h.filter _
theorem yK t l (e:Rec×β):e∈AB t l↔e∈l∧e.1≠t:=by simp[AB]
theorem a8U{a b:Ls β}(Q:nO a)(S:nO b)(h:∀e,e∈a↔e∈b):a=b:=by
 induction a generalizing b with
 |nil=>
  rcases b with _|⟨y,t⟩
  ·rfl
  exact absurd ((h y).2 (.head _)) sI
 |cons x r W=>
  rcases b with _|⟨y,t⟩
  ·exact absurd ((h x).1 (.head _)) sI
  have A:=aQ.1 Q;have G:=aQ.1 S;have O:x=y:=by
   rcases aF.1 ((h x).1 (.head _))with e|e
   ·exact e
   rcases aF.1 ((h y).2 (.head _))with N|N
   ·exact N.symm
   have:=uO (G.1 x e) (A.1 y N);rw[nH]at this;cases this
  subst O;rw[W A.2 G.2 fun z=>⟨fun M=>?_,fun M=>?_⟩]
  ·rcases aF.1 ((h z).1 (.tail _ M))with rfl|e
   ·have:=A.1 z M;rw[nH]at this;cases this
   exact e
  rcases aF.1 ((h z).2 (.tail _ M))with rfl|e
  ·have:=G.1 z M;rw[nH]at this;cases this
  exact e
theorem b5z{l}(h:nO l){a b:Rec×β}(N:a∈l)(Q:b∈l)(O:a.1=b.1):a=b:=by
 induction l with
 |nil=>cases N
 |cons x r S=>
  have M:=aQ.1 h;rcases aF.1 N with A|A<;>rcases aF.1 Q with G|G
  ·rw[A,G]
  ·have:=M.1 b G;rw[←A,O,nH]at this;cases this
  ·have:=M.1 a A;rw[←G,←O,nH]at this;cases this
  exact S M.2 A G
theorem a1C{l:Ls β}(h:nO l):(l.map (·.1)).Nodup:=by
 rw[List.nodup_iff_pairwise_ne,dM];exact h.imp fun {a b} g e=>by rw[e,nH]at g;cases g
theorem oQ{l}(h:nO l){t:Rec}{v:β}:qK l t=some v↔(t,v)∈l:=by
 unfold qK;constructor
 ·intro g;obtain⟨e,A,rfl⟩:=Option.map_eq_some_iff.1 g;have h1:=dZ A;have h2:e.1=t:=zA h1;have:=dR A;rw[←h2];exact this
 intro g;have G:(l.find? fun e=>decide (e.1=t)).isSome=true:=by
  rw[List.find?_isSome];exact⟨_,g,sI⟩
 obtain⟨e,A⟩:=Option.isSome_iff_exists.1 G;have h0:=dZ A;have h1:e.1=t:=zA h0;have h2:=b5z h (dR A) g h1;rw[A,h2];rfl
theorem JH{l:Ls β}{t}:qK l t=none↔∀e∈l,e.1≠t:=by grind [qK,Option.map_eq_none_iff]
def b3G (es l:Ls β):Ls β:=es.foldl (fun l e=>rW e.1 e.2 l) l
end
end Ix
namespace Ke
def isb (s:Sub):Option Bs:=if (ED s.text).2=true∧s.code=97 then some (ED s.text).1 else none
end Ke
namespace Ix
open Ke
def nU (w:Bs):Bs→List Bs
 |[]=>if w=[]then[]else[w]
 |c::r=>if digit c then nU (w++[c]) r else if w=[]then nU [] r else w::nU [] r
def wZ (s:Bs):List Bs:=nU [] s
def rD (s:Bs):Option Bs:=(wZ s).find? fun x=>decide (x.length=4)
structure V where
  name:Bs
  text:Bs
  skip:Nat
def V.key (v:V):Bs:=nT v.text v.skip
def V.ws (v:V):Row:=words v.text
def rE:Bs:=[116,105,116,108,101]
def qZ:Bs:=[97,117,116,104,111,114]
def rF:Bs:=[115,117,98,106,101,99,116]
def uH:Bs:=[105,115,98,110]
def IY:Bs:=[121,101,97,114]
def wI:Bs:=[97,110,121]
def uT (f:sG):Bs:=join (f.subs.map (·.text))
def yr (s:Sub):Option Bs:=if s.code=99 then rD s.text else none
def named (f:sG):Bs×Row:=
 if f.tag=[50,52,53]∨f.tag=[50,52,54]then(rE,[textOf f [97,98]])
 else if f.tag=[49,48,48]∨f.tag=[49,49,48]∨f.tag=[55,48,48]then(qZ,[textOf f [97]])
 else if f.tag=[54,48,48]∨f.tag=[54,53,48]then(rF,[textOf f [97,120]])
 else if f.tag=[48,50,48]then(uH,f.subs.filterMap isb)
 else if f.tag=[50,54,48]then(IY,f.subs.filterMap yr)
 else([],[])
def vJ (f:sG):Nat:=if f.tag=[50,52,53]then skip f else 0
def xX (f:sG):Bool:= !([48,48]:Bs).isPrefixOf f.tag && !([57]:Bs).isPrefixOf f.tag
def AA (f:sG):List V:=(named f).2.map (fun s=>⟨(named f).1,s,vJ f⟩)++if xX f then[⟨wI,uT f,0⟩]else[]
def vals (fs:List sG):List V:=fs.flatMap AA
def UN (f:sG) (n:Bs):List (Bs×Nat):=
 if n=rE then(if f.tag=[50,52,53]∨f.tag=[50,52,54]then[(textOf f [97,98],vJ f)]else[])
 else if n=qZ then(if f.tag=[49,48,48]∨f.tag=[49,49,48]∨f.tag=[55,48,48]then[(textOf f [97],0)]else[])
 else if n=rF then(if f.tag=[54,48,48]∨f.tag=[54,53,48]then[(textOf f [97,120],0)]else[])
 else if n=uH then(if f.tag=[48,50,48]then(f.subs.filterMap isb).map fun s=>(s,0)else[])
 else if n=IY then(if f.tag=[50,54,48]then(f.subs.filterMap yr).map fun s=>(s,0)else[])
 else if n=wI then(if xX f then[(uT f,0)]else[])
 else[]
def valsN (fs:List sG) (n:Bs):List (Bs×Nat):=fs.flatMap fun f=>UN f n
abbrev V.ts (v:V):Bs×Nat:=(v.text,v.skip)
theorem YA n m k (l:Row):((l.map fun s=>(⟨m,s,k⟩:V)).filter fun v=>decide (v.name=n)).map V.ts=if m=n then l.map (fun s=>(s,k))else[]:=by
 rw[eF]
 by_cases h:m=n
 ·subst h;simp only[dN,decide_true,bK,if_true];rw[dG.2 fun _ _=>rfl]
 simp[dN,h]
theorem a9U f n (Z:n≠wI):(if (named f).1=n then(named f).2.map (fun s=>(s,vJ f))else[])=UN f n:=by
 unfold UN;rw[zD (c:=n=wI) Z];have Q:f.tag≠[50,52,53]→vJ f=0:=fun h=>zD h;unfold named
 split
 ·rename_i A
  have a1:¬(f.tag=[49,48,48]∨f.tag=[49,49,48]∨f.tag=[55,48,48]):=by rintro(g|g|g)<;>rw[g]at A<;>revert A<;>decide
  have S:¬(f.tag=[54,48,48]∨f.tag=[54,53,48]):=by rintro(g|g)<;>rw[g]at A<;>revert A<;>decide
  have N:¬f.tag=[48,50,48]:=by intro g;rw[g]at A;revert A;decide
  have G:¬f.tag=[50,54,48]:=by intro g;rw[g]at A;revert A;decide
  rw[zD a1,zD S,zD N,zD G]
  by_cases n1:n=rE
  ·subst n1;simp
  simp[n1,dS n1]
 rename_i A
 have hk:vJ f=0:=Q fun g=>A (.inl g);rw[hk]
 split
 ·rename_i M
  have S:¬(f.tag=[54,48,48]∨f.tag=[54,53,48]):=by rintro(g|g)<;>rw[g]at M<;>revert M<;>decide
  have N:¬f.tag=[48,50,48]:=by intro g;rw[g]at M;revert M;decide
  have G:¬f.tag=[50,54,48]:=by intro g;rw[g]at M;revert M;decide
  rw[zD S,zD N,zD G]
  by_cases n1:n=qZ
  ·subst n1;simp[qZ,rE]
  simp[n1,dS n1]
 split
 ·rename_i O
  have N:¬f.tag=[48,50,48]:=by intro g;rw[g]at O;revert O;decide
  have G:¬f.tag=[50,54,48]:=by intro g;rw[g]at O;revert O;decide
  rw[zD N,zD G]
  by_cases n1:n=rF
  ·subst n1;simp[qZ,rE,rF]
  simp[n1,dS n1]
 split
 ·rename_i W
  have G:¬f.tag=[50,54,48]:=by intro g;rw[g]at W;revert W;decide
  rw[zD G]
  by_cases n1:n=uH
  ·subst n1;simp[qZ,rE,rF,uH]
  simp[n1,dS n1]
 split
 ·by_cases n1:n=IY
  ·subst n1;simp[qZ,rE,rF,uH,IY]
  simp[n1,dS n1]
 simp
theorem b6r f n:((AA f).filter fun v=>decide (v.name=n)).map V.ts=UN f n:=by
 unfold AA;rw[bH,aA,YA]
 by_cases hn:n=wI
 ·subst hn;have h1:(named f).1≠wI:=by
   unfold named
   split
   ·exact zA rfl
   split
   ·exact zA rfl
   split
   ·exact zA rfl
   split
   ·exact zA rfl
   split
   ·exact zA rfl
   exact zA rfl
  rw[zD h1];have h2:UN f wI=if xX f then[(uT f,0)]else[]:=by
   unfold UN;rw[zD (c:=wI=rE) dE,zD (c:=wI=qZ) dE,zD (c:=wI=rF) dE,zD (c:=wI=uH) dE,zD (c:=wI=IY) dE,zF (c:=wI=wI) rfl]
  rw[h2]
  by_cases g:xX f=true
  ·rw[zF g,zF g];simp
  rw[zD g,zD g];rfl
 rw[a9U f n hn]
 by_cases g:xX f=true
 ·rw[zF g];simp[dS hn]
 rw[zD g];simp
theorem a4c fs n:((vals fs).filter fun v=>decide (v.name=n)).map V.ts=valsN fs n:=by
 unfold vals valsN
 induction fs with
 |nil=>rfl
 |cons f r A=>rw[cO,bH,aA,b6r,A,cO]
abbrev Ix:=Ls (List V)
def within (w:Row):Row→Bool
 |[]=>w.isEmpty
 |x::r=>w.isPrefixOf (x::r) || within w r
def FY (n:Bs) (w:Row) (vs:List V):Bool:=vs.any fun v=>decide (v.name=n) && within w v.ws
def hasK (n k:Bs) (vs:List V):Bool:=vs.any fun v=>decide (v.name=n) && decide (v.key=k)
def phrase (L:Ix) (n:Bs) (w:Row):List Rec:=if w=[]then[]else(L.filter fun e=>FY n w e.2).map (·.1)
def word (L:Ix) (n s:Bs):List Rec:=if (words s).length=1 then phrase L n (words s)else[]
def oG (L:Ix) (n k:Bs):List Rec:=if k=[]then[]else(L.filter fun e=>hasK n k e.2).map (·.1)
def keyOf (n s:Bs):Bs:=if (ED s).2=true∧n=uH then nT (ED s).1 0 else nT s 0
def keysOf (n:Bs) (vs:List V):Row:=((vs.filter fun v=>decide (v.name=n)).map V.key).filter fun k=>decide (k≠[])
def mP (L:Ix) (n begin:Bs):Row:=((L.flatMap fun e=>keysOf n e.2).filter fun k=>decide (¬k<begin)).foldl put []
def scan (L:Ix) (n s:Bs) (most:Int):List (Bs×Nat):=((mP L n (keyOf n s)).take most.toNat).map fun k=>(k,(oG L n k).length)
def oI (L:Ix) (t:Rec):Bs:=match qK L t with
 |none=>[]
 | some vs=>match vs.find? fun v=>decide (v.name=rE)with
   |none=>[]
   |some v=>v.key
theorem within_iff{w}:∀{l:Row},within w l=true↔w <:+: l
 |[]=>by
  unfold within;rw[List.infix_nil];cases w<;>simp
 |x::r=>by
  unfold within;rw[Bool.or_eq_true,within_iff,List.infix_cons_iff,bT]
theorem ND{x l}:within [x] l=true↔x∈l:=by
 rw[within_iff];constructor
 ·rintro⟨s,t,rfl⟩;simp
 intro h;obtain⟨s,t,rfl⟩:=fG h;exact⟨s,t,sI⟩
theorem a7R{x w l}(h:within (x::w) l=true):x∈l:=by
 rw[within_iff]at h;exact h.subset (.head _)
end Ix
namespace Ix
open Ke
abbrev Pl:=Bs×Bs
def plW (vs:List V):List Pl:=vs.flatMap fun v=>v.ws.map fun w=>(v.name,w)
def IG (vs:List V):List Pl:=vs.flatMap fun v=>if v.key=[]then[]else[(v.name,v.key)]
def cnt (pl:List V→List Pl) (L:Ix) (p:Pl) (t:Rec):Nat:=match qK L t with
 |none=>0
 |some vs=>(pl vs).count p
def way (f:Pl→Rec→Nat) (t:Rec) (n:Pl→Nat) (p:Pl) (u:Rec):Nat:=if u=t then n p else f p u
theorem SL{L:Ix}(h:nO L)(t u:Rec)(v:List V):qK (rW t v L) u=if u=t then some v else qK L u:=by
 by_cases hu:u=t
 ·rw[zF hu,oQ (BG t v h),wG t v h,hu];exact .inl rfl
 rw[zD hu];cases hg:qK L u with
 |none=>
  rw[JH]at hg ⊢;intro e A;rcases(wG t v h e).1 A with g|g
  ·rw[g];exact dS hu
  exact hg e g.1
 |some x=>
  rw[oQ h]at hg;rw[oQ (BG t v h),wG t v h];exact .inr ⟨hg,hu⟩
theorem LZ{L:Ix}(h:nO L) t u:qK (AB t L) u=if u=t then none else qK L u:=by
 by_cases hu:u=t
 ·rw[zF hu,JH];intro e A;rw[hu];exact((yK t L e).1 A).2
 rw[zD hu];cases hg:qK L u with
 |none=>
  rw[JH]at hg ⊢;exact fun e A=>hg e ((yK t L e).1 A).1
 |some x=>
  rw[oQ h]at hg;rw[oQ (JV t h),yK];exact⟨hg,hu⟩
theorem a4p{pl L}(h:nO L) t v:cnt pl (rW t v L)=way (cnt pl L) t fun p=>(pl v).count p:=by
 funext p u
 unfold cnt way;rw[SL h]
 by_cases hu:u=t
 ·rw[zF hu,zF hu]
 rw[zD hu,zD hu]
theorem a8I{pl L}(h:nO L) t:cnt pl (AB t L)=way (cnt pl L) t fun _=>0:=by
 funext p u
 unfold cnt way;rw[LZ h]
 by_cases hu:u=t
 ·rw[zF hu,zF hu]
 rw[zD hu,zD hu]
theorem b2w{pl L t vs}(h:qK L t=some vs):cnt pl L=way (cnt pl L) t fun p=>(pl vs).count p:=by unfold way cnt;grind
theorem b3v{pl L t}(h:qK L t=none):cnt pl L=way (cnt pl L) t fun _=>0:=by unfold way cnt;grind
theorem a7U{L:Ix}(h:nO L)(t:Rec)(v:List V):rW t v (AB t L)=rW t v L:=by grind [yK,a8U,BG,JV,wG]
theorem XC{pl L}(h:nO L){p ts}(h1:ts.Pairwise fun a b=>oN a b=true)(h2:∀t,t∈ts↔cnt pl L p t≠0):ts=(L.filter fun e=>decide (p∈pl e.2)).map (·.1):=by
 have key:ts.map (fun t=>(t,()))=((L.filter fun e=>decide (p∈pl e.2)).map fun e=>(e.1,())):=by
  refine a8U (β:=Unit) ?_ ?_ fun e=>?_
  ·unfold nO;rw[dM];exact h1
  ·unfold nO;rw[dM];exact List.Pairwise.filter _ h
  rw[aX,aX];constructor
  ·rintro⟨t,A,rfl⟩;have h3:=(h2 t).1 A;unfold cnt at h3;cases hg:qK L t with
   |none=>rw[hg]at h3;exact absurd rfl h3
   |some vs=>
    rw[hg]at h3;have G:p∈pl vs:=aW.1 (aT.2 h3);exact⟨(t,vs),aY.2 ⟨(oQ h).1 hg,zH G⟩,rfl⟩
  rintro⟨⟨t,vs⟩,A,rfl⟩;rw[aY]at A;refine⟨t,(h2 t).2 ?_,rfl⟩;unfold cnt;rw[(oQ h).2 A.1];exact aT.1 (aW.2 (zA A.2))
 have:=zC (List.map (·.1)) key;simpa[bK,dN]using this
theorem b5p{vs n w}:(n,w)∈plW vs↔FY n [w] vs=true:=by
 unfold plW FY;rw[fM,dU];constructor
 ·rintro⟨v,A,h⟩;obtain⟨x,G,M⟩:=aX.1 h;cases M;exact⟨v,A,by simp[ND,G]⟩
 rintro⟨v,A,h⟩;rw[aV,zG,ND]at h;exact⟨v,A,aX.2 ⟨w,h.2,by rw[h.1]⟩⟩
theorem BN{vs n k}:(n,k)∈IG vs↔k≠[]∧hasK n k vs=true:=by unfold IG hasK;grind
theorem a5t{L}(h:nO L){n w ts}(h1:ts.Pairwise fun a b=>oN a b=true)(h2:∀t,t∈ts↔cnt plW L (n,w) t≠0):ts=phrase L n [w]:=by
 rw[XC h h1 h2];unfold phrase;rw[zD sI]
 congr 2
 funext e
 rw[bV,zG,b5p]
theorem a8u{L}(h:nO L){n k ts}(h1:ts.Pairwise fun a b=>oN a b=true)(h2:∀t,t∈ts↔cnt IG L (n,k) t≠0):ts=oG L n k:=by
 rw[XC h h1 h2];unfold oG
 by_cases hk:k=[]
 ·rw[zF hk];have:(L.filter fun e=>decide ((n,k)∈IG e.2))=[]:=by
   rw[List.filter_eq_nil_iff];intro e _;rw[zG,BN];exact fun g=>g.1 hk
  rw[this];rfl
 rw[zD hk]
 congr 2
 funext e
 rw[bV,zG,BN];exact⟨fun g=>g.2,fun g=>⟨hk,g⟩⟩
theorem a9h{L} n x w p (A:nO L)(G:∀t vs,qK L t=some vs→p t=FY n (x::w) vs):(phrase L n [x]).filter p=phrase L n (x::w):=by
 unfold phrase;rw[zD sI,zD sI,eF,List.filter_filter]
 congr 1
 refine fK fun e M=>?_;have h1:qK L e.1=some e.2:=(oQ A).2 M;show(p e.1 && FY n [x] e.2)=FY n (x::w) e.2;rw[G _ _ h1];cases h2:FY n (x::w) e.2 with
 |false=>rfl
 |true=>
  rw[dK];unfold FY at h2 ⊢;rw[dU]at h2 ⊢;obtain⟨v,N,h3⟩:=h2;rw[aV]at h3;exact⟨v,N,by rw[aV];exact⟨h3.1,ND.2 (a7R h3.2)⟩⟩
end Ix
namespace Ix
open Ke
theorem YZ{n k vs}:k∈keysOf n vs↔(n,k)∈IG vs:=by
 rw[BN];unfold keysOf hasK;rw[aY,aX,zG,dU];constructor
 ·rintro⟨⟨v,A,rfl⟩,G⟩;rw[aY,zG]at A;exact⟨G,v,A.1,by simp[A.2]⟩
 rintro⟨G,v,A,h⟩;rw[aV,zG,zG]at h;exact⟨⟨v,aY.2 ⟨A,zH h.1⟩,h.2⟩,G⟩
theorem KU{pl L}(h:nO L){p}:(∃t,cnt pl L p t≠0)↔∃e∈L,p∈pl e.2:=by
 constructor
 ·rintro⟨t,A⟩;unfold cnt at A;cases hg:qK L t with
  |none=>rw[hg]at A;exact absurd rfl A
  |some vs=>
   rw[hg]at A;exact⟨(t,vs),(oQ h).1 hg,aW.1 (aT.2 A)⟩
 rintro⟨⟨t,vs⟩,G,M⟩;refine⟨t,?_⟩;unfold cnt;rw[(oQ h).2 G];exact aT.1 (aW.2 M)
theorem CQ L n b:Inc (mP L n b):=WH _ List.Pairwise.nil
theorem xU{L}(h:nO L){n b k}:k∈mP L n b↔¬k<b∧∃t,cnt IG L (n,k) t≠0:=by
 unfold mP;rw[a2T,KU h,aY,fM,zG];constructor
 ·rintro(⟨⟨e,A,G⟩,M⟩|g)
  ·exact⟨M,e,A,YZ.1 G⟩
  cases g
 rintro⟨M,e,A,G⟩;exact .inl ⟨⟨e,A,YZ.2 G⟩,M⟩
theorem yG{L}(h:nO L){n b ls}(h1:Inc (ls.map (·.1)))(h2:∀k,k∈ls.map (·.1)↔¬k<b∧∃t,cnt IG L (n,k) t≠0)(h3:∀x∈ls,x.2=(oG L n x.1).length):ls=(mP L n b).map fun k=>(k,(oG L n k).length):=by
 have A:ls.map (·.1)=mP L n b:=ZF h1 (CQ L n b) fun k=>by rw[h2,xU h]
 rw[←A,bK]
 conv=>lhs;rw[←List.map_id ls]
 refine fE fun x G=>?_;show x=(x.1,(oG L n x.1).length);rw[←h3 x G]
theorem a1I L n s A:((mP L n (keyOf n s)).map fun k=>(k,(oG L n k).length)).take A.toNat=scan L n s A:=by
 unfold scan;rw[←List.map_take]
theorem b1w{L}(h:nO L){n k}{ts:List Rec}(M:ts.Nodup)(h2:∀t,t∈ts↔cnt IG L (n,k) t≠0):ts.length=(oG L n k).length:=by
 have G:(oG L n k).Nodup:=by
  unfold oG
  split
  ·exact .nil
  exact(a1C h).sublist (List.filter_sublist.map _)
 refine List.Perm.length_eq ((List.perm_ext_iff_of_nodup M G).2 fun t=>?_);rw[h2];unfold oG
 by_cases hk:k=[]
 ·rw[zF hk];refine⟨fun g=>?_,fun g=>by cases g⟩;obtain⟨e,_,N⟩:=(KU h).1 ⟨t,g⟩;exact absurd hk (BN.1 N).1
 rw[zD hk,aX];constructor
 ·intro g;unfold cnt at g;cases hg:qK L t with
  |none=>rw[hg]at g;exact absurd rfl g
  |some vs=>
   rw[hg]at g;have:=BN.1 (aW.1 (aT.2 g));exact⟨(t,vs),aY.2 ⟨(oQ h).1 hg,this.2⟩,rfl⟩
 rintro⟨⟨u,vs⟩,A,rfl⟩;rw[aY]at A;unfold cnt;rw[(oQ h).2 A.1];exact aT.1 (aW.2 (BN.2 ⟨hk,A.2⟩))
end Ix
namespace Ix
open Ke
def QZ:List Bs:=[[69,109,109,97],
 [84,104,101,32,115,101,97],
 [195,156,98,101,114,32,100,101,110,32,70,108,117,195,159],
 [87,97,114,32,97,110,100,32,112,101,97,99,101],
 [119,97,114,32,38,32,80,69,65,67,69],
 [65,117,115,116,101,110,44,32,74,97,110,101],
 [84,111,108,115,116,111,121],
 [49,57,56,52],
 [57,55,56,48,51,48,54,52,48,54,49,53,55],
 [48,51,48,54,52,48,54,49,53,50],
 [76,111,110,100,111,110],
 [83,101,97,32,115,116,111,114,105,101,115],
 [65],
 [],
 [69,109,109,97,32,97,110,100,32,116,104,101,32,115,101,97],
 [49,57,57,57],
 [99,49,57,57,57,46],
 [82,105,118,101,114,115],
 [79,99,101,97,110,115,32,45,45,32,72,105,115,116,111,114,121],
 [112,101,97,99,101]]
def XM:List Bs:=[[48,48,49],
 [50,52,53],
 [49,48,48],
 [48,50,48],
 [54,53,48],
 [55,48,48],
 [50,54,48],
 [53,48,48],
 [57,48,48],
 [57,52,57],
 [48,48,56],
 [50,52,54],
 [54,48,48],
 [49,49,48],
 [52,57,48],
 [48,48,51],
 [57,122,57],
 [50,52],
 [57,57,57],
 [48]]
def b3C:List Bs:=[[49,48],
 [32,32],
 [49,32],
 [48,48],
 [48,32],
 [32,48],
 [51,32],
 [49,50]]
def a4s:Bs:=[97,98,99,48,97,118,120,113]
def a0a (n:Int):Bs:=QZ.getD (n % 20).toNat []
def a7K (n:Int):Bs:=XM.getD (n % 20).toNat []
structure Four where
  x0:Int
  x1:Int
  x2:Int
  x3:Int
def a7Y (q:Four) (j:Nat):Sub:=⟨a4s.getD ((q.x2.tdiv 3+(j:Int)*(1+q.x1 % 3)) % 8).toNat 0,a0a (Go.IntKind.wrap .i64 (q.x3+3*(j:Int)))⟩
def isC (t:Bs):Prop:=1<t.length∧t.take 2=[48,48]
instance (t:Bs):Decidable (isC t):=by unfold isC;exact inferInstance
def a0I (q:Four):sG:=if isC (a7K q.x0)then⟨a7K q.x0,[],a0a q.x3,.slice none 0 0,[]⟩
 else⟨a7K q.x0,b3C.getD (q.x1 % 8).toNat [],[],.slice none 0 0,(List.range (1+(q.x2 % 3).toNat)).map fun j=>a7Y q j⟩
def XJ (l:List Four):List sG:=(l.take 20).map a0I
structure qO where
  drop:Bool
  src:Int
  num:Int
  fs:List Four
def qO.title (a:qO):Rec:=(a.src,a.num)
def qO.record (a:qO):List sG:=XJ (a.fs.take 8)
def qO.vs (a:qO):List V:=vals a.record
def act (L:Ix) (a:qO):Ix:=if a.drop=true then AB a.title L else rW a.title a.vs L
def play (l:List qO):Ix:=(l.take 20).foldl act []
theorem a6e{L}(h:nO L) a:nO (act L a):=by grind [act,JV,BG]
theorem WZ:∀(l:List qO) {L:Ix},nO L→nO (l.foldl act L)
 |[],_,h=>h
 |a::r,_,h=>WZ r (a6e h a)
theorem b1T l:nO (play l):=WZ _ List.Pairwise.nil
theorem b2n q:(a0I q).tag.length≤3∧(a0I q).subs.length≤3:=by
 have h1:∀k:Nat,(XM.getD k []).length≤3:=by
  intro k;rcases dB k 20 with h|h
  ·have:∀k,k<20→(XM.getD k []).length≤3:=dE;exact this k h
  rw[dL,eY (by simpa[XM]using h)];simp
 unfold a0I
 split
 ·exact⟨h1 _,sI⟩
 refine⟨h1 _,?_⟩;simp only[bI,List.length_range];omega
theorem b0J n:(a0a n).length≤17:=by
 unfold a0a;generalize (n % 20).toNat=k;rcases dB k 20 with h|h
 ·have:∀k,k<20→(QZ.getD k []).length≤17:=dE;exact this k h
 rw[dL,eY (by simpa[QZ]using h)];simp
end Ix
namespace Ix
open Ke
open Go Go.Lib
theorem vV c:digit c=decide (48≤c.toNat∧c.toNat≤57):=by simp_all[digit,bV,aV,zG,UInt8.le_iff_toNat_le]
def IB (r:Nat):Bool:=decide (r<48) || decide (57<r)
theorem decodeL_N c r:decodeL (c::r)=decodeN (r.length+1) c.toNat (r.getD 0 0).toNat (r.getD 1 0).toNat (r.getD 2 0).toNat:=by
 have:=decode_N ⟨(c::r).toArray⟩ 0;simp only[bG,Nat.sub_zero,Nat.zero_add,List.getD_cons_zero,List.getD_cons_succ]at this;exact this
theorem a3v c r (h:128≤c.toNat):128≤(decodeL (c::r)).1∧∀x∈(c::r).take (decodeL (c::r)).2,128≤x.toNat:=by
 have key:∀k n:Nat,(128≤k∧∀x∈(c::r).take n,128≤x.toNat)→128≤((k,n):Nat×Nat).1∧∀x∈(c::r).take ((k,n):Nat×Nat).2,128≤x.toNat:=fun _ _ h=>h;have h1:128≤((65533,1):Nat×Nat).1∧∀x∈(c::r).take ((65533,1):Nat×Nat).2,128≤x.toNat:=⟨dE,fun x A=>by simp at A;rw[A];exact h⟩;rw[decodeL_N];unfold decodeN;rw[zD oM]
 split
 ·rename_i g
  split
  ·refine key _ _ ⟨oM,fun x A=>?_⟩;rcases r with _|⟨d,r⟩
   ·simp at A;rw[A];exact h
   simp at A g;rcases A with rfl|rfl
   ·exact h
   omega
  exact h1
 split
 ·rename_i g
  split
  ·refine key _ _ ⟨oM,fun x A=>?_⟩;rcases r with _|⟨d,_|⟨e,r⟩⟩
   ·simp at A;rw[A];exact h
   ·simp at g
   simp at A g;rcases A with rfl|rfl|rfl
   ·exact h
   ·omega
   omega
  exact h1
 split
 ·rename_i g
  split
  ·refine key _ _ ⟨oM,fun x A=>?_⟩;rcases r with _|⟨d,_|⟨e,_|⟨f,r⟩⟩⟩
   ·simp at A;rw[A];exact h
   ·simp at g
   ·simp at g
   simp at A g;rcases A with rfl|rfl|rfl|rfl
   ·exact h
   ·omega
   ·omega
   omega
  exact h1
 exact h1
theorem a1D:∀(q:Bs) (w r:Bs),(∀x∈q,digit x=false)→q≠[]→nU w (q++r)=(if w=[]then[]else[w])++nU [] r
 |[],_,_,_,h=>absurd rfl h
 |[c],w,r,h,_=>by
  show nU w (c::r)=_;rw[nU,h c (.head _)];simp only[aN,if_false]
  split<;>rfl
 |c::d::q,w,r,h,_=>by
  have A:=a1D (d::q) [] r (fun x G=>h x (.tail _ G)) sI;rw[zF rfl,dD]at A;show nU w (c::((d::q)++r))=_;rw[nU,h c (.head _),A];simp only[aN,if_false]
  split<;>rfl
theorem a1c w c r (h:digit c=true):nU w (c::r)=nU (w++[c]) r:=by rw[nU,zF h]
theorem PV s:∀(f A:Nat) (M:Option Nat) (G:List (Nat×Nat)),s.size≤A+f→A≤s.size→(∀a,M=some a→a<A)→
 G.map (fun p=>pieceU s.data.toList p.1 p.2)++nU (openPiece s.data.toList M A) (s.data.toList.drop A)=(closeSpans s (spansFromP IB s f A M G)).map (fun p=>pieceU s.data.toList p.1 p.2)
 |0,A,M,G,h,hp,hst=>by
  obtain rfl:A=s.size:=oM;have hd:s.data.toList.drop s.size=[]:=eP (by rw[←size_eq];exact aU _);rw[hd,nU];cases M with
  |none=>simp[spansFromP,closeSpans,openPiece]
  |some a=>
   have:=pieceU_ne s.data.toList a s.size (hst a rfl) (by rw[←size_eq];exact aU _);simp[spansFromP,closeSpans,openPiece,this]
 |f+1,A,M,G,h,hp,hst=>by
  by_cases hlt:A<s.size
  ·have a0:A<s.data.toList.length:=by rw[←size_eq];exact hlt
   have W:decodeL (s.data.toList.drop A)=bF s A:=decodeL_drop s A;obtain⟨c,O⟩:∃c,s.data.toList.drop A=c::s.data.toList.drop (A+1):=⟨s.data.toList[A],(eU a0).symm⟩;have hw:=width_pos s A;have Z:A+(bF s A).2≤s.size:=by
    have:=decodeN_le_n' (s.size-A) (s.get! A).toNat (s.get! (A+1)).toNat (s.get! (A+2)).toNat (s.get! (A+3)).toNat oM;rw[←decode_at]at this;omega
   simp only[spansFromP,zF hlt]
   by_cases hdig:digit c=true
   ·have a4:48≤c.toNat∧c.toNat≤57:=by rw[vV]at hdig;exact zA hdig
    have h1:bF s A=(c.toNat,1):=by
     rw[←W,O];rw[decodeL_N];unfold decodeN;rw[zF oM]
    have h2:IB c.toNat=false:=by unfold IB;simp;omega
    rw[h1];simp only[h2,aN,if_false];rw[O,a1c _ _ _ hdig];cases M with
    |none=>
     have N:=PV s f (A+1) (some A) G oM oM (fun a h=>by cases h;omega);have e:openPiece s.data.toList none A++[c]=openPiece s.data.toList (some A) (A+1):=by
      show[]++[c]=pieceU s.data.toList A (A+1);unfold pieceU;rw[O,Nat.add_sub_cancel_left];rfl
     rw[e];exact N
    |some a=>
     have N:=PV s f (A+1) (some a) G oM oM (fun b h=>by cases h;have:=hst a rfl;omega);have e:openPiece s.data.toList (some a) A++[c]=openPiece s.data.toList (some a) (A+1):=by
      have:=pieceU_grow s.data.toList a A 1 (by have:=hst a rfl;omega);rw[O]at this;exact this
     rw[e];exact N
   have h3:IB (bF s A).1=true∧∀x∈(s.data.toList.drop A).take (bF s A).2,digit x=false:=by
    rw[←W,O]
    by_cases h128:c.toNat<128
    ·have h1:decodeL (c::s.data.toList.drop (A+1))=(c.toNat,1):=by
      rw[decodeL_N];unfold decodeN;rw[zF h128]
     rw[h1];refine⟨?_,fun x S=>?_⟩
     ·rw[vV,zG]at hdig;unfold IB;simp;omega
     simp at S;rw[S];simpa using hdig
    obtain⟨_,g2⟩:=a3v c (s.data.toList.drop (A+1)) oM;refine⟨by unfold IB;simp;omega,fun x S=>?_⟩;have:=g2 x S;rw[vV];simp;omega
   have Q:s.data.toList.drop A=(s.data.toList.drop A).take (bF s A).2++s.data.toList.drop (A+(bF s A).2):=by
    rw[←fQ,bM]
   have a1:(s.data.toList.drop A).take (bF s A).2≠[]:=by
    intro h0;have:=zC List.length h0;rw[bP,List.length_drop]at this;simp at this;omega
   simp only[h3.1,if_true];rw[Q,a1D _ _ _ h3.2 a1];cases M with
   |none=>
    have N:=PV s f (A+(bF s A).2) none G oM Z (fun a h=>by cases h);simpa[openPiece]using N
   |some a=>
    have a2:=pieceU_ne s.data.toList a A (hst a rfl) (by rw[←size_eq];omega);have N:=PV s f (A+(bF s A).2) none (G++[(a,A)]) oM Z (fun a h=>by cases h);simpa[openPiece,a2]using N
  have a3:A=s.size:=oM;have hd:s.data.toList.drop A=[]:=eP (by rw[←size_eq];omega);rw[spansFromP_end IB s _ A M G hlt,hd,nU];subst a3;cases M with
  |none=>simp[closeSpans,openPiece]
  |some a=>
   have:=pieceU_ne s.data.toList a s.size (hst a rfl) (by rw[←size_eq];exact aU _);simp[closeSpans,openPiece,this]
theorem a0D(s:ByteArray) a b:s.extract a b=⟨(pieceU s.data.toList a b).toArray⟩:=by
 apply ByteArray.ext
 rw[ByteArray.data_extract]
 apply Array.ext'
 rw[Array.toList_extract];unfold pieceU;simp[List.extract_eq_take_drop]
theorem fieldsD s:goFieldsP IB ⟨s.toArray⟩=(wZ s).map fun x=>⟨x.toArray⟩:=by
 have h:=PV ⟨s.toArray⟩ (ByteArray.mk s.toArray).size 0 none [] oM oM (fun _ h=>by cases h);simp only[gI,dD,openPiece,fU]at h;unfold goFieldsP spansOfP wZ;rw[h,bK];refine fE fun p _=>?_;rw[a0D];rfl
theorem YJ:∀(d w r:Bs),(∀x∈d,digit x=true)→nU w (d++r)=nU (w++d) r
 |[],w,r,_=>by rw[dD,aB]
 |c::d,w,r,h=>by
  show nU w (c::(d++r))=_;rw[a1c _ _ _ (h c (.head _)),YJ d _ r fun x A=>h x (.tail _ A),dP];rfl
theorem a5M w r (h:r=[]∨∃c q,r=c::q∧digit c=false):nU w r=(if w=[]then[]else[w])++nU [] (r.drop 1):=by
 rcases h with rfl|⟨c,q,rfl,A⟩
 ·rw[nU,List.drop_nil,nU,zF rfl,aB]
 rw[nU,A];simp only[aN,if_false,List.drop_one,List.tail_cons]
 split<;>rfl
theorem a2e t:rD t=if (t.takeWhile digit).length=4 then some (t.take 4)else rD (t.drop ((t.takeWhile digit).length+1)):=by
 have A:t.takeWhile digit++t.dropWhile digit=t:=List.takeWhile_append_dropWhile;have S:∀x∈t.takeWhile digit,digit x=true:=fun x W=>List.all_eq_true.1 List.all_takeWhile x W;have Z:t.dropWhile digit=[]∨∃c q,t.dropWhile digit=c::q∧digit c=false:=by
  cases h:t.dropWhile digit with
  |nil=>exact .inl rfl
  |cons c q=>
   refine .inr ⟨c,q,rfl,?_⟩;have:=List.head?_dropWhile_not digit t;rw[h]at this;simpa using this
 have G:t.take (t.takeWhile digit).length=t.takeWhile digit:=by
  have h:=List.take_left (l₁:=t.takeWhile digit) (l₂:=t.dropWhile digit)
  rwa [A]at h
 have N:(t.dropWhile digit).drop 1=t.drop ((t.takeWhile digit).length+1):=by
  have:t.drop (t.takeWhile digit).length=t.dropWhile digit:=by
   have h:=List.drop_left (l₁:=t.takeWhile digit) (l₂:=t.dropWhile digit)
   rwa [A]at h
  rw[←this,fQ]
 have O:wZ t=(if t.takeWhile digit=[]then[]else[t.takeWhile digit])++wZ (t.drop ((t.takeWhile digit).length+1)):=by
  unfold wZ
  conv=>lhs;rw[←A]
  rw[YJ _ _ _ S,dD,a5M _ _ Z,N]
 unfold rD;rw[O,List.find?_append]
 by_cases h4:(t.takeWhile digit).length=4
 ·rw[zF h4];have M:t.takeWhile digit≠[]:=by intro h0;rw[h0]at h4;cases h4
  rw[zD M];have Q:[t.takeWhile digit].find? (fun x=>decide (x.length=4))=some (t.takeWhile digit):=by simp[h4]
  rw[Q];rw[h4]at G;rw[G];rfl
 rw[zD h4]
 by_cases M:t.takeWhile digit=[]
 ·rw[zF M];rfl
 have Q:[t.takeWhile digit].find? (fun x=>decide (x.length=4))=none:=by simp[h4]
 rw[zD M,Q];rfl
theorem b1N:rD []=none:=rfl
end Ix
namespace Go.Sx
open Go Go.RowKit
theorem jO.b6D{P f args I T l vals}(hv:vals=l.map str)(he:Enters P f)
 (h:∀w,Calls P f args.toArray w fun e w'=>∃A,e= .returned (.slice (some ⟨A,0,none⟩) l.length l.length)∧w.heap.size≤A∧w'.ownsRow w.heap.size T 1 (.slice (some ⟨A,0,none⟩) l.length l.length) l.length vals∧Below w.heap.size w w'):
 jO P f args I [] (fun e I' H'=>∃v,e= .returned v∧oO T I' l v∧H'=[]):=by
 refine⟨he,fun w hw=>(h w).mono ?_⟩;rintro e w' ⟨A,rfl,hA,G,M⟩;obtain⟨r1,-,-,-⟩:=hw;have S:∀{b:Nat} {o:Obj},I b=some o→b<w.heap.size:=fun {b o} N=>by
  have:=r1 b o N;rcases dB b w.heap.size with W|W
  ·exact W
  rw[eX W]at this;cases this
 obtain⟨-,G⟩:=G;obtain⟨g,cap,O,hs,-,hc,_,-,_,a1⟩:=G.resolve_left fun g=>by cases g.1
 cases hs;have Z:(.cells O T (0,0):Obj)=jM T (l.map str++O.toList.drop l.length):=by
  unfold jM;rw[←hv,←a1,Nat.mul_one,bM]
 rw[Z]at hc;have a2:St w [] I I [(A,jM T (l.map str++O.toList.drop l.length))] w':=
  ⟨M.os,M.tape,M.output,M.size,fun b N _=>M.block b N,fun b o N=>by rw[M.block b (S N)];exact r1 b o N,fun p Q=>by rw[aJ.1 Q];exact hc,sI,fun p Q=>by
   rw[aJ.1 Q];cases hI:I A with
   |none=>rfl
   |some o=>have:=S hI;omega,fun p Q=>by rw[aJ.1 Q];exact .inr hA,fun _ _=>rfl,fV _,WU⟩
 have a0:=a2.persist hA;exact⟨_,_,a0,_,rfl,.inr ⟨A,l.length,_,rfl,aU _,FQ _ _ _⟩,rfl⟩
theorem jO.b3Y{P f args I T}{l:List (List UInt8)}{vals}(hv:vals=l.map str)(he:Enters P f)
 (h:∀w,(∀b o,I b=some o→w.heap[b]?=some o)→Calls P f args.toArray w fun e w'=>∃A,e= .returned (.slice (some ⟨A,0,none⟩) l.length l.length)∧w.heap.size≤A∧w'.ownsRow w.heap.size T 1 (.slice (some ⟨A,0,none⟩) l.length l.length) l.length vals∧Below w.heap.size w w'):
 jO P f args I [] (fun e _ H'=>∃b sp,e= .returned (.slice (some ⟨b,0,none⟩) l.length l.length)∧H'=[(b,jM T (l.map str++sp))]):=by
 refine⟨he,fun w hw=>(h w hw.1).mono ?_⟩;rintro e w' ⟨A,rfl,hA,G,M⟩;obtain⟨r1,-,-,-⟩:=hw;have S:∀{b:Nat} {o:Obj},I b=some o→b<w.heap.size:=fun {b o} N=>by
  have:=r1 b o N;rcases dB b w.heap.size with W|W
  ·exact W
  rw[eX W]at this;cases this
 obtain⟨-,G⟩:=G;obtain⟨g,cap,O,hs,-,hc,_,-,_,a0⟩:=G.resolve_left fun g=>by cases g.1
 cases hs;have Z:(.cells O T (0,0):Obj)=jM T (l.map str++O.toList.drop l.length):=by
  unfold jM;rw[←hv,←a0,Nat.mul_one,bM]
 rw[Z]at hc;have a1:St w [] I I [(A,jM T (l.map str++O.toList.drop l.length))] w':=
  ⟨M.os,M.tape,M.output,M.size,fun b N _=>M.block b N,fun b o N=>by rw[M.block b (S N)];exact r1 b o N,fun p Q=>by rw[aJ.1 Q];exact hc,sI,fun p Q=>by
   rw[aJ.1 Q];cases hI:I A with
   |none=>rfl
   |some o=>have:=S hI;omega,fun p Q=>by rw[aJ.1 Q];exact .inr hA,fun _ _=>rfl,fV _,WU⟩
 exact⟨_,_,a1,_,_,rfl,rfl⟩
end Go.Sx
section
namespace Go.Proofs.YtekmeaoblpfnpaaGreatDoor
open _root_.Go.Proofs.Tryz
open Go Go.Sx
def sel (codes:List UInt8) (s:dV):Bool:=decide (codes=[]) || codes.contains s.code
def AV (codes:List UInt8) (ss:List dV):List (List UInt8):=(ss.filter (sel codes)).map (·.text)
def JB (f:gJ) (codes:List UInt8):List UInt8:=Ke.join (AV codes f.subs)
theorem yF{f codes}(h:codes≠[]):JB f codes=aP f codes:=by
 unfold JB aP Ke.texts AV
 congr 2
 refine fK fun s _=>?_;unfold sel;rw[zI h];rfl
theorem DV f:JB f []=Ix.uT f:=by
 unfold JB Ix.uT AV;rw[show f.subs.filter (sel [])=f.subs from dG.2 fun _ _=>rfl]
theorem b2p{codes}{ss:List dV}{k s}(h:ss[k]?=some s):AV codes (ss.take (k+1))=AV codes (ss.take k)++(if sel codes s=true then[s.text]else[]):=by
 obtain⟨A,G⟩:=aG.1 h;unfold AV;rw[aI A,G,bH,aA]
 by_cases hc:sel codes s=true
 ·rw[zF hc,List.filter_cons_of_pos hc];rfl
 rw[zD hc,dY hc];rfl
theorem a0H codes ss:(AV codes ss).length≤ss.length:=by
 unfold AV;rw[bI];exact List.length_filter_le _ _
theorem a6g codes:∀ss:List dV,((AV codes ss).map List.length).sum≤lV ss
 |[]=>by simp[AV]
 |s::r=>by
  have:=a6g codes r;unfold AV lV at this ⊢;rw[List.filter_cons]
  split
  ·simp only[aH,fD];omega
  simp only[aH,fD];omega
theorem DC f codes:(JB f codes).length≤lV f.subs+f.subs.length:=by
 have h1:=yD (AV codes f.subs);have h2:=a6g codes f.subs;have h3:=a0H codes f.subs;unfold JB;omega
theorem WW{ss s}(h:s∈ss):s.text.length≤lV ss:=by
 unfold lV
 induction ss with
 |nil=>cases h
 |cons a r A=>
  rw[aH,fD];rcases aF.1 h with e|e
  ·rw[e];omega
  have:=A e;omega
abbrev four (x:List UInt8):Bool:=decide (x.length=4)
def BX {α:Type} (p:α→Bool) (l:List α):Int:=match l.findIdx? p with
 |some k=>(k:Int)
 |none=> -1
theorem JC{α:Type}{p:α→Bool}{l:List α}(h:∀x∈l,p x=false):BX p l= -1:=by
 unfold BX;rw[List.findIdx?_eq_none_iff.2 fun x A=>by simpa using h x A]
theorem TR{α:Type}{p:α→Bool}{l:List α}{k}{x:α}(h:∀y∈l.take k,p y=false)(G:l[k]?=some x)(M:p x=true):BX p l=(k:Int):=by
 obtain⟨A,N⟩:=aG.1 G;unfold BX;have:l.findIdx? p=some k:=by
  rw[List.findIdx?_eq_some_iff_getElem];refine⟨A,by rw[N];exact M,fun j _=>?_⟩;have h1:l[j]'oM∈l.take k:=by
   rw[List.mem_take_iff_getElem];exact⟨j,oM,rfl⟩
  rw[h _ h1];exact Bool.false_ne_true
 rw[this]
theorem FH{α:Type}{p:α→Bool}{l:List α}{k x}(h:∀y∈l.take k,p y=false)(M:l[k]?=some x)(N:p x=false):∀y∈l.take (k+1),p y=false:=fun y A=>by
 obtain⟨G,O⟩:=aG.1 M;rw[aI G,O,aK,aJ]at A;rcases A with A|rfl
 ·exact h y A
 exact N
theorem tJ{α:Type} p l:(BX p l= -1∧l.find? p=none)∨∃(k:Nat) (x:α),BX p l=(k:Int)∧l[k]?=some x∧l.find? p=some x:=by
 by_cases h:∃k,∃x,l[k]?=some x∧p x=true∧∀y∈l.take k,p y=false
 ·obtain⟨k,x,h1,h2,h3⟩:=h;refine .inr ⟨k,x,TR h3 h1 h2,h1,?_⟩;obtain⟨_,N⟩:=aG.1 h1;rw[List.find?_eq_some_iff_append];refine⟨h2,l.take k,l.drop (k+1),?_,fun y A=>by simp[h3 y A]⟩;rw[←N,eU,bM]
 have G:∀k,k≤l.length→∀y∈l.take k,p y=false:=by
  intro k
  induction k with
  |zero=>intro _ y A;simp at A
  |succ k O=>
   intro _;have M:=kW (l:=l) (i:=k) oM;have h1:=O oM;refine FH h1 M ?_;cases hp:p l[k]with
   |false=>rfl
   |true=>exact absurd ⟨k,_,M,hp,h1⟩ h
 have h2:∀y∈l,p y=false:=fun y A=>G l.length (aU _) y (by rw[List.take_length];exact A);exact .inl ⟨JC h2,List.find?_eq_none.2 fun y A=>by simp[h2 y A]⟩
theorem yT{f c}(h:f.ind[1]?=some c):fA f=if fO c=true then c.toNat-48 else 0:=by
 unfold fA;rw[h]
theorem BF{I l v}:mZ I l v↔jW (fun s=>[str s]) I l v:=by
 unfold mZ jW;rw[show l.map str=l.flatMap fun s=>[str s] by induction l with|nil=>rfl|cons a r A=>rw[aH,cO,A];rfl]
theorem wP f codes (hn:f.subs.length≤2000000)(ad:lV f.subs≤3000000) I (hr:jW tK I f.subs f.sv):Pure aS 150 [.agg (nS f).toArray,str codes] I (str (JB f codes)):=by
 refine bQ ?_;obtain⟨p2,c2,a6,W,a7⟩:=hr;refine jU func150 fun w0 _=>?_;refine jL 3 ?_;intro _ _;refine jL 13 ?_;refine dW 9 (.slice p2 f.subs.length c2) rfl a6 ?_;refine jL 5 ?_;refine fZ (aZ gK) ?_;refine fH (ι:=Nat×Gs) (fun j=>j.1≤f.subs.length∧kZ w0.heap.size 1 (AV codes (f.subs.take j.1)).length ((AV codes (f.subs.take j.1)).map str) j.2) (fun j=>f.subs.length-j.1) (fun j=>[(1,str codes),(5,gV (AV codes (f.subs.take j.1)).length j.2),(9,.slice p2 f.subs.length c2),(10,i64 (f.subs.length:Int)),(11,i64 (j.1:Int))]) (fun j=>_) (fun j=>gH 9 ((AV codes (f.subs.take j.1)).map str) j.2) (0,none) ⟨dI _,rfl,rfl⟩ rT rfl rfl ?_;rintro⟨j,g⟩ ⟨hj,N⟩;dsimp only at hj N ⊢;have a8:=a0H codes (f.subs.take j);rw[bP,eG hj]at a8;refine jS ?_ ?_<;>intro W a1
 ·refine jL 5 ?_;have Z:j<f.subs.length:=oM;obtain⟨sb,M⟩:∃x,f.subs[j]?=some x:=⟨_,kW Z⟩;obtain⟨_,so,_,_,_,_,rfl,a2,a9⟩:=a7 (jT Z);have A:=b2p (codes:=codes) M;refine kJ (so+j*2) ?_;refine J.z (q2 isAgg176 JR (fB a2) (kY qH a9 M)) ?_;refine jL 1 ?_;intro _ _;refine mX ?_ ?_<;>intro O a3
  ·have G:sel codes sb=true:=by unfold sel;rw[zH (lU O)];rfl
   rw[zF G]at A;refine jL 14 ?_;intro _ _;refine yQ 15 [_,_] N ?_;intro g7 aa;refine jL 8 ?_;refine bY (aZ (aZ bU)) ?_;refine bJ (j+1,g7) ⟨dO,by dsimp only;rw[A,aA,aC];exact aa⟩ dO ⟨rfl,by dsimp only;rw[A,aC];rfl,rfl,rfl,rfl,trivial⟩ rfl (by dsimp only;rw[A,aA];rfl)
  have a0:codes≠[]:=lY O;refine kC (QF _ _ _) ?_;refine jS ?_ ?_<;>intro Q a4
  ·have G:sel codes sb=true:=by unfold sel;rw[zI a0,←a2k];exact Q
   rw[zF G]at A;refine jL 5 ?_;intro _ _;refine yQ 15 [_,_] N ?_;intro ab a5;refine jL 8 ?_;refine bY (aZ (aZ bU)) ?_;refine bJ (j+1,ab) ⟨dO,by dsimp only;rw[A,aA,aC];exact a5⟩ dO ⟨rfl,by dsimp only;rw[A,aC];rfl,rfl,rfl,rfl,trivial⟩ rfl (by dsimp only;rw[A,aA];rfl)
  have G:¬sel codes sb=true:=by unfold sel;rw[zI a0,←a2k];exact fun e=>cZ (e.symm.trans Q)
  rw[zD G]at A;refine jL 7 ?_;refine bY (aZ bU) ?_;refine bJ (j+1,g) ⟨dO,by dsimp only;rw[A,aB];exact N⟩ dO ⟨rfl,by dsimp only;rw[A,aB];rfl,rfl,rfl,rfl,trivial⟩ rfl (by dsimp only;rw[A,aB])
 refine jL 6 ?_;have S:f.subs.take j=f.subs:=aO oM;rw[S]at N ⊢;have ac:=DC f codes;refine Cj.perm (H':=gH _ _ _++[]) (.of_eq (aB _)) ?_;refine Cj.xY N (fun _ _ hv=>?_);refine kC (a0k (AV codes f.subs) _ (by have:=a0H codes f.subs;omega) (by have e:Ke.join (AV codes f.subs)=JB f codes:=rfl;rw[e];omega) _ hv) ?_;refine jV ?_;exact rT
theorem b4x f (hi:f.ind.length≤2000000) I:Pure aS 148 [.agg (nS f).toArray] I (i64 ((Ix.vJ f:Nat):Int)):=by
 refine bQ ?_;refine jU func148 fun w0 _=>?_;refine jL 3 ?_;intro _ _;refine mX ?_ ?_<;>intro N Z
 ·have A:f.tag=[50,52,53]:=lU N;refine mX ?_ ?_<;>intro O a0
  ·have Q:1<f.ind.length:=by have h:=mO O;omega
   obtain⟨c,G⟩:∃c,f.ind[1]?=some c:=⟨_,kW Q⟩;refine jL 2 ?_;refine J.zg (lH rfl rfl rfl lM oM G) ?_;refine mX ?_ ?_<;>intro S a1
   ·have a3:48≤c.toNat:=by have h:=mO S;omega
    refine jL 2 ?_;refine J.zg (lH rfl rfl rfl lM oM G) ?_;refine jS ?_ ?_<;>intro W a2
    ·have a4:c.toNat≤57:=by have h:=mO W;omega
     have M:fO c=true:=by rw[Ix.vV];simp only[zG];omega
     refine jL 4 ?_;refine J.z (lH rfl rfl rfl lM oM G) ?_;refine J.z (FZ rfl rfl rfl (w8 oM)) ?_;refine jL 1 ?_;refine dW 28 (i64 ((c.toNat-48:Nat):Int)) rfl (zC i64 ((qW oM).trans oM)) ?_;refine kM ?_;rw[show Ix.vJ f=fA f from zF A];rw[yT G,zF M];exact rT
    have M:¬fO c=true:=by rw[Ix.vV];have h:=nM W;simp only[zG];omega
    refine kM ?_;rw[show Ix.vJ f=fA f from zF A];rw[yT G,zD M];exact rT
   have M:¬fO c=true:=by rw[Ix.vV];have h:=nM S;simp only[zG];omega
   refine kM ?_;rw[show Ix.vJ f=fA f from zF A];rw[yT G,zD M];exact rT
  have Q:¬1<f.ind.length:=by have h:=nM O;omega
  refine kM ?_;rw[show Ix.vJ f=fA f from zF A];rw[a6B Q];exact rT
 have A:¬f.tag=[50,52,53]:=lY N;refine kM ?_;rw[show Ix.vJ f=0 from zD A];exact rT
theorem b3b s I:Pure aS 259 [str s] I (.bool (decide (s.length=4))):=by
 refine bQ ?_;refine jU func259 fun w0 _=>?_;refine jL 10 ?_;refine dW 5 (.bool (decide (s.length=4))) rfl (zC Value.bool (by rw[bV,beq_iff_eq,zG];omega)) ?_;refine jV ?_;exact rT
theorem a5V(c:Nat) I:Pure aS 257 [.int .i32 (c:Int)] I (.bool (Ix.IB c)):=by
 refine bQ ?_;refine jU func257 fun w0 _=>?_;refine mX ?_ ?_<;>intro A G
 ·refine jV ?_;have e:Ix.IB c=true:=by unfold Ix.IB;have h:=mO A;rw[zH (oM:c<48)];rfl
  rw[e];exact rT
 refine jV ?_;refine⟨?_,rfl⟩;have h:=nM A;unfold Ix.IB;rw[zI (oM:¬c<48),Bool.false_or];exact zC (fun b=>Ending.returned (Value.bool b)) (decide_eq_decide.2 oM)
theorem a2C s (A:s.length≤4000000000) I:jO aS 256 [str s,.func (.func 257) #[] #[]] I [] (fun e N H'=>∃v,e= .returned v∧oO 9 N (Ix.wZ s) v∧H'=[]):=by
 have O:∀x:Nat,x≤1114111→∀W:World,Calls aS 257 #[.int .i32 (x:Int)] W fun e w'=>e= .returned (.bool (Ix.IB x))∧RowKit.Below W.heap.size W w':=fun x _ W=>by
  have h:=(a5V x (fun _=>none)).2 W (by unfold Ready;exact⟨(fun b o Q=>by cases Q),(fun p G=>by cases G),List.Pairwise.nil,(fun p G=>by cases G)⟩);exact h.mono fun e w' ⟨N,H',A,h1,_⟩=>⟨h1,A.os,A.tape,A.output,A.size,fun k S=>A.frm k S sI⟩
 have M:Lib.goFieldsP Ix.IB ⟨s.toArray⟩=(Ix.wZ s).map fun x=>⟨x.toArray⟩:=Ix.fieldsD s;refine jO.b6D (vals:=((Ix.wZ s).map fun x=>(⟨x.toArray⟩:ByteArray)).map Value.string) (by rw[bK];rfl) (Enters.of func256 dE rfl) fun w=>?_;have h:=Tryz.strings_FieldsFunc_grows 257 #[] (enters_of func257 kR rfl) Ix.IB ⟨s.toArray⟩ w (by rw[size_mk];omega) (fun W x Z _=>O x Z W);rw[M,bI]at h;exact h
theorem a2E l v M g cap (hl:l.length≤100000000000000) I (hr:mZ I l v)(W:∀x∈l,Pure aS g (str x::cap) I (.bool (M x))):Pure aS 258 [v,.func (.func g) #[] cap.toArray] I (i64 (BX M l)):=by
 refine bQ ?_;obtain⟨p,c,rfl,_,hp⟩:=hr;refine jU func258 fun w0 _=>?_;refine jL 14 ?_;refine fH (ι:=Nat) (fun j=>j≤l.length∧∀x∈l.take j,M x=false) (fun j=>l.length-j) (fun j=>[(0,.slice p l.length c),(1,.func (.func g) #[] cap.toArray),(7,i64 (l.length:Int)),(8,i64 (j:Int))]) (fun j=>I) (fun j=>[]) 0 ⟨dI _,fun g hg=>by simp at hg⟩ rT rfl rfl ?_;rintro j ⟨_,A⟩;refine jS ?_ ?_<;>intro Z S
 ·have Q:j<l.length:=oM;obtain⟨x,G⟩:∃x,l[j]?=some x:=⟨_,kW Q⟩;obtain⟨_,fo,_,_,_,sp,rfl,a0,a1⟩:=hp (jT Q);refine kJ (fo+j) ?_;refine J.z (jP rfl rfl lQ (fB a0) (qG a1 G)) ?_;refine kC (W x (lX G)) ?_;refine mW ?_ ?_<;>intro N
  ·have ht:M x=true:=N;refine jV ?_;rw[TR A G ht];exact rT
  have a2:M x=false:=N;refine jL 7 ?_;refine bJ (j+1) ⟨oM,FH A G a2⟩ oM rT rfl rfl
 have O:l.take j=l:=aO oM;rw[O]at A;refine jV ?_;rw[JC A];exact rT
theorem IL:∀(s w:List UInt8),(Ix.nU w s).length≤s.length+w.length
 |[],w=>by
  unfold Ix.nU
  split
  ·simp
  rename_i h;have:0<w.length:=fF.2 h;simp only[bG,bW];omega
 |c::r,w=>by
  unfold Ix.nU
  split
  ·have:=IL r (w++[c]);rw[aC]at this;simp only[bG,bW]at this ⊢;omega
  split
  ·have:=IL r [];simp only[bW,bG]at this ⊢;omega
  rename_i h
  have:=IL r [];have h2:0<w.length:=fF.2 h;simp only[bW,bG]at this ⊢;omega
theorem a9t s:(Ix.wZ s).length≤s.length:=by
 have:=IL s [];exact this
theorem b2f s (hs:s.length≤100000000) I:Pure aS 215 [str s] I (.tuple #[str ((Ix.rD s).getD []),.bool (Ix.rD s).isSome]):=by
 refine bQ ?_;have a0:=a9t s;refine jU func215 fun w0 _=>?_;refine kL (a2C s oM _) ?_;intro _ _ _ _ O;obtain⟨_,h,Q,rfl⟩:=O;cases h;refine kC (a2E (Ix.wZ s) _ four 259 [] oM _ (mZ.of Q) (fun x _=>b3b x _)) ?_;refine jS ?_ ?_<;>intro N A
 ·have G:Ix.rD s=none:=((tJ four (Ix.wZ s)).resolve_right (fun⟨k,x,h,_⟩=>by rw[h]at A;omega)).2;refine jV ?_;rw[G];exact rT
 obtain⟨k,y,S,M,G⟩:=(tJ four (Ix.wZ s)).resolve_left (fun h=>by rw[h.1]at A;omega);obtain⟨_,_,_,rfl,W⟩:=Q.some (fun e=>by rw[e]at M;cases M);rw[S];have Z:=(aG.1 M).1;refine kJ k ?_;refine J.z (jP rfl rfl lQ (fB W) (nN M)) ?_;refine jV ?_;rw[show Ix.rD s=some y from G];exact rT
end Go.Proofs.YtekmeaoblpfnpaaGreatDoor
end
section
namespace Go.Proofs.YtekmeaoblpfnpaaGreatDoor
open _root_.Go.Proofs.Tryz
open Go Go.Sx
def vK (u:List UInt8→List UInt8×Bool) (code:UInt8) (s:dV):Option (List UInt8):=if (u s.text).2=true∧s.code=code then some (u s.text).1 else none
def uy (s:List UInt8):List UInt8×Bool:=((Ix.rD s).getD [],(Ix.rD s).isSome)
theorem a6C:vK uy 99=Ix.yr:=by
 funext s
 unfold vK uy Ix.yr
 by_cases h:s.code=99
 ·rw[zF h];cases hy:Ix.rD s.text with
  |none=>simp
  |some y=>simp[h]
 rw[zD h,zD (fun g=>h g.2)]
theorem a6h{u code}{ss:List dV}{k s}(h:ss[k]?=some s):(ss.take (k+1)).filterMap (vK u code)=(ss.take k).filterMap (vK u code)++(if (u s.text).2=true∧s.code=code then[(u s.text).1]else[]):=by
 obtain⟨A,G⟩:=aG.1 h;rw[aI A,G,List.filterMap_append]
 by_cases hc:(u s.text).2=true∧s.code=code
 ·rw[zF hc];simp[vK,hc]
 rw[zD hc];simp[vK,hc]
theorem pre_eq{s p:List UInt8}(h:p.length≤s.length):p.isPrefixOf s=((s.take p.length).drop 0 == p):=by
 rw[fU,bV,bT,beq_iff_eq,List.prefix_iff_eq_take];exact⟨fun e=>e.symm,fun e=>e.symm⟩
theorem a9e{s p:List UInt8}(h:¬p.length≤s.length):p.isPrefixOf s=false:=by
 rw[fJ,Ne,bT];exact fun e=>h e.length_le
theorem qB{T I l v}(h:oO T I l v):∃p c,v= .slice p l.length c:=by
 rcases h with⟨rfl,rfl⟩|⟨b,c,sp,rfl,_,_⟩
 ·exact⟨none,0,rfl⟩
 exact⟨_,c,rfl⟩
theorem RZ{I l a b w}(h:oO 9 I l w)(A:fC a=true)(G:fC b=true):[a,b,w].all fC=true:=by
 obtain⟨p,c,rfl⟩:=qB h;simp only[List.all_cons,List.all_nil,A,G,Bool.and_true,dK];rfl
def xP (fs:List gJ):Prop:=fs.length≤1000∧∀f∈fs,f.subs.length≤1000∧lV f.subs≤3000000∧f.ind.length≤2000000
abbrev VW:=Ix.V×Value
def GZ (x:VW):List Value:=[str x.1.name,str x.1.key,x.2]
theorem FN x:(GZ x).length=3:=rfl
def vH (I:Heap) (xs:List VW) (vs:List Ix.V):Prop:=xs.map (·.1)=vs∧∀x∈xs,oO 9 I x.1.ws x.2
theorem vH.mono{I A xs vs}(h:vH I xs vs)(G:Le I A):vH A xs vs:=⟨h.1,fun x M=>(h.2 x M).mono G⟩
theorem vH.len{I xs vs}(h:vH I xs vs):xs.length=vs.length:=by rw[←h.1,bI]
theorem vH.add{I xs vs}(h:vH I xs vs){v w}(A:oO 9 I v.ws w):vH I (xs++[(v,w)]) (vs++[v]):=
 ⟨by rw[aA,h.1];rfl,fun x G=>by
  rcases aK.1 G with g|g
  ·exact h.2 x g
  rw[aJ.1 g];exact A⟩
def yB (I:Heap) (vs:List Ix.V) (v:Value):Prop:=∃xs,wH 142 GZ I xs v∧vH I xs vs
theorem yB.mono{I G vs v}(h:yB I vs v)(A:Le I G):yB G vs v:=let ⟨xs,h1,h2⟩:=h;⟨xs,h1.mono A,h2.mono A⟩
theorem a2t f (h:f.subs.length≤1000):(Ix.named f).2.length≤1000:=by
 unfold Ix.named
 repeat' split
 all_goals first
  |exact nP (dX _ _) h
  |simp
theorem a6d{p:dV→Option (List UInt8)}{ss:List dV}{s:List UInt8}{n:Nat}(A:∀x∈ss,∀y,p x=some y→y.length≤n)(h:s∈ss.filterMap p):s.length≤n:=by
 obtain⟨x,G,M⟩:=List.mem_filterMap.1 h;exact A x G s M
theorem NY s:(Ke.ED s).1.length≤13:=by
 unfold Ke.ED Ke.a2I
 split
 ·simp only[aC,bP,bG,bW];omega
 split
 ·rename_i h;have:=h.1;dsimp only;omega
 simp
theorem YM{s y}(h:Ix.rD s=some y):y.length=4:=by
 have h1:=dZ h;exact mO h1
theorem NC{f s}(h:s∈(Ix.named f).2):s.length≤lV f.subs+f.subs.length+13:=by
 have G:∀c:List UInt8,(aP f c).length≤lV f.subs+f.subs.length:=MZ f;unfold Ix.named at h
 repeat' split at h
 all_goals first
  |(rw[aJ]at h;rw[h];have:=G [97,98];have:=G [97];have:=G [97,120];omega)
  |(refine nP (a6d (n:=13) (fun x _ y A=>?_) h) oM;unfold Ke.isb at A;split at A;(cases A;exact NY _);cases A)
  |(refine nP (a6d (n:=13) (fun x _ y A=>?_) h) oM;unfold Ix.yr at A;split at A;(have:=YM A;omega);cases A)
  |cases h
theorem a8T f (h:f.subs.length≤1000):(Ix.AA f).length≤1001:=by
 have:=a2t f h;unfold Ix.AA;rw[aC,bI]
 split<;>simp<;>omega
theorem a2n fs (h:xP fs) j:(Ix.vals (fs.take j)).length≤j*1001:=by
 induction j with
 |zero=>simp[Ix.vals]
 |succ j G=>
  rcases dB j fs.length with A|A
  ·rw[aI A];unfold Ix.vals at G ⊢;rw[bC,aC];have:=a8T fs[j] (h.2 _ (List.getElem_mem A)).1;simp only[cO,List.flatMap_nil,aB];omega
  rw[aO A]at G;rw[aO (show fs.length≤j+1 by omega)];exact nP G (Nat.mul_le_mul_right _ (Nat.le_succ j))
theorem RU{fs:List gJ}{j f}(h:fs[j]?=some f):Ix.vals (fs.take (j+1))=Ix.vals (fs.take j)++Ix.AA f:=by
 obtain⟨A,G⟩:=aG.1 h;rw[aI A,G];unfold Ix.vals;rw[bC];simp
abbrev nv (f:gJ) (s:List UInt8):Ix.V:=⟨(Ix.named f).1,s,Ix.vJ f⟩
theorem yH{α β:Type}(g:α→β){l:List α}{k x}(h:l[k]?=some x):(l.take (k+1)).map g=(l.take k).map g++[g x]:=by
 obtain⟨A,G⟩:=aG.1 h;rw[aI A,G,aA];rfl
structure VA where
  j:Nat
  J:Heap
  xs:List VW
  g:Gs
theorem a2F s p (N:p.length≤1000000) I:Pure aS 216 [str s,str p] I (.bool (p.isPrefixOf s)):=by
 refine bQ ?_;refine jU func216 fun w0 _=>?_;refine mX ?_ ?_<;>intro A M
 ·have G:p.length≤s.length:=by have h:=mO A;omega
  refine jL 3 ?_;refine J.zg (lN (p:=0) (q:=p.length) rfl rfl lM rfl ⟨_,rfl⟩ oM oM) ?_;refine jV ?_;refine⟨?_,rfl⟩;rw[pre_eq G]
 have G:¬p.length≤s.length:=by have h:=nM A;omega
 refine jV ?_;rw[a9e G];exact rT
theorem QK s p (A:p.length≤1000000) I:Pure aS 149 [str s,str p] I (.bool (p.isPrefixOf s)):=by
 refine bQ ?_;refine jU func149 fun w0 _=>?_;refine kC (a2F s p A _) ?_;refine jV ?_;exact rT
theorem QD f code g0 u (hn:f.subs.length≤2000000)(a8:lV f.subs≤3000000)(hu:∀s J,s.length≤100000000→Pure aS g0 [str s] J (.tuple #[str (u s).1,.bool (u s).2])) I (hr:jW tK I f.subs f.sv):jO aS 214 [.agg (nS f).toArray,u8 code,.func (.func g0) #[] #[]] I []
 (fun e I' H'=>∃v,e= .returned v∧oO 9 I' (f.subs.filterMap (vK u code)) v∧H'=[]):=by
 obtain⟨p2,c2,a3,W,a4⟩:=hr;refine jU func214 fun w0 _=>?_;refine jL 3 ?_;intro _ _;refine jL 13 ?_;refine dW 13 (.slice p2 f.subs.length c2) rfl a3 ?_;refine jL 5 ?_;refine fZ (aZ gK) ?_;refine fH (ι:=Nat×Gs) (fun j=>j.1≤f.subs.length∧kZ w0.heap.size 1 ((f.subs.take j.1).filterMap (vK u code)).length (((f.subs.take j.1).filterMap (vK u code)).map str) j.2) (fun j=>f.subs.length-j.1) (fun j=>[(1,u8 code),(2,.func (.func g0) #[] #[]),(7,gV ((f.subs.take j.1).filterMap (vK u code)).length j.2),(13,.slice p2 f.subs.length c2),(14,i64 (f.subs.length:Int)),(15,i64 (j.1:Int))]) (fun j=>_) (fun j=>gH 9 (((f.subs.take j.1).filterMap (vK u code)).map str) j.2) (0,none) ⟨dI _,rfl,rfl⟩ rT rfl rfl ?_;rintro⟨j,g⟩ ⟨hj,M⟩;dsimp only at hj M ⊢;have a5:=dX (vK u code) (f.subs.take j);rw[bP,eG hj]at a5;refine jS ?_ ?_<;>intro W a0
 ·refine jL 5 ?_;have Z:j<f.subs.length:=oM;obtain⟨sb,G⟩:∃x,f.subs[j]?=some x:=⟨_,kW Z⟩;obtain⟨_,so,_,_,_,_,rfl,a1,a6⟩:=a4 (jT Z);have a9:=WW (lX G);have A:=a6h (u:=u) (code:=code) G;refine kJ (so+j*2) ?_;refine J.z (q2 isAgg176 JR (fB a1) (kY qH a6 G)) ?_;refine jL 1 ?_;intro _ _;refine kC (hu sb.text _ oM) ?_;refine mX ?_ ?_<;>intro N a2
  ·have O:sb.code=code:=UInt8.toNat_inj.1 (by have h:=lU N;omega);refine mW ?_ ?_<;>intro Q
   ·rw[zF ⟨Q,O⟩]at A;refine jL 4 ?_;intro _ _;refine yQ 15 [_,_] M ?_;intro g7 a7;refine jL 8 ?_;refine bY (aZ (aZ bU)) ?_;refine bJ (j+1,g7) ⟨dO,by dsimp only;rw[A,aA,aC];exact a7⟩ dO ⟨rfl,rfl,by dsimp only;rw[A,aC];rfl,rfl,rfl,rfl,trivial⟩ rfl (by dsimp only;rw[A,aA];rfl)
   rw[zD (fun g=>cZ (g.1.symm.trans Q))]at A;refine jL 7 ?_;refine bY (aZ bU) ?_;refine bJ (j+1,g) ⟨dO,by dsimp only;rw[A,aB];exact M⟩ dO ⟨rfl,rfl,by dsimp only;rw[A,aB];rfl,rfl,rfl,rfl,trivial⟩ rfl (by dsimp only;rw[A,aB])
  have O:sb.code≠code:=fun e=>lY N (by rw[e]);rw[zD (fun g=>O g.2)]at A;refine jL 12 ?_;refine bY (aZ bU) ?_;refine bJ (j+1,g) ⟨dO,by dsimp only;rw[A,aB];exact M⟩ dO ⟨rfl,rfl,by dsimp only;rw[A,aB];rfl,rfl,rfl,rfl,trivial⟩ rfl (by dsimp only;rw[A,aB])
 refine jL 6 ?_;have S:f.subs.take j=f.subs:=aO oM;rw[S]at M ⊢;refine Cj.perm (H':=gH _ _ _++[]) (.of_eq (aB _)) ?_;refine Cj.xY M (fun _ _ hv=>?_);refine jV ?_;exact⟨_,rfl,hv,rfl⟩
theorem named_ok f (N:f.subs.length≤2000000)(M:lV f.subs≤3000000) I (G:jW tK I f.subs f.sv):jO aS 147 [.agg (nS f).toArray] I []
 (fun e I' H'=>∃v,e= .returned (.tuple #[str (Ix.named f).1,v])∧oO 9 I' (Ix.named f).2 v∧H'=[]):=by
 refine jU func147 fun w0 _=>?_;refine jL 3 ?_;intro _ _;refine jS ?_ ?_<;>intro b1 ae
 ·refine kC (wP f [97,98] N M _ G) ?_;refine dW 10 (str (aP f [97,98])) rfl (zC str (yF (bD _ _))) ?_;refine jL 1 ?_;intro b4 b2;refine jL 7 ?_;have A:Ix.named f=(Ix.rE,[aP f [97,98]]):=by simp[Ix.named, *]
  rw[A];refine bZ b2 (fun _ af ag=>?_);have G:=G.mono af;refine kM ?_;exact⟨_,rfl,.inr ⟨b4,1,[],rfl,aU _,ag⟩,rfl⟩
 refine jS ?_ ?_<;>intro b3 ah
 ·refine kC (wP f [97,98] N M _ G) ?_;refine dW 10 (str (aP f [97,98])) rfl (zC str (yF (bD _ _))) ?_;refine jL 1 ?_;intro b8 hb8;refine jL 7 ?_;have A:Ix.named f=(Ix.rE,[aP f [97,98]]):=by simp[Ix.named, *]
  rw[A];refine bZ hb8 (fun _ ai aj=>?_);have G:=G.mono ai;refine kM ?_;exact⟨_,rfl,.inr ⟨b8,1,[],rfl,aU _,aj⟩,rfl⟩
 refine jS ?_ ?_<;>intro al O
 ·refine kC (wP f [97] N M _ G) ?_;refine dW 17 (str (aP f [97])) rfl (zC str (yF (bD _ _))) ?_;refine jL 1 ?_;intro b5 am;refine jL 7 ?_;have A:Ix.named f=(Ix.qZ,[aP f [97]]):=by simp[Ix.named, *]
  rw[A];refine bZ am (fun _ Q S=>?_);have G:=G.mono Q;refine kM ?_;exact⟨_,rfl,.inr ⟨b5,1,[],rfl,aU _,S⟩,rfl⟩
 refine jS ?_ ?_<;>intro an W
 ·refine kC (wP f [97] N M _ G) ?_;refine dW 17 (str (aP f [97])) rfl (zC str (yF (bD _ _))) ?_;refine jL 1 ?_;intro b6 ao;refine jL 7 ?_;have A:Ix.named f=(Ix.qZ,[aP f [97]]):=by simp[Ix.named, *]
  rw[A];refine bZ ao (fun _ Z a0=>?_);have G:=G.mono Z;refine kM ?_;exact⟨_,rfl,.inr ⟨b6,1,[],rfl,aU _,a0⟩,rfl⟩
 refine jS ?_ ?_<;>intro ap a1
 ·refine kC (wP f [97] N M _ G) ?_;refine dW 17 (str (aP f [97])) rfl (zC str (yF (bD _ _))) ?_;refine jL 1 ?_;intro b7 aq;refine jL 7 ?_;have A:Ix.named f=(Ix.qZ,[aP f [97]]):=by simp[Ix.named, *]
  rw[A];refine bZ aq (fun _ a2 a3=>?_);have G:=G.mono a2;refine kM ?_;exact⟨_,rfl,.inr ⟨b7,1,[],rfl,aU _,a3⟩,rfl⟩
 refine jS ?_ ?_<;>intro ar a4
 ·refine kC (wP f [97,120] N M _ G) ?_;refine dW 23 (str (aP f [97,120])) rfl (zC str (yF (bD _ _))) ?_;refine jL 1 ?_;intro b27 au;refine jL 7 ?_;have A:Ix.named f=(Ix.rF,[aP f [97,120]]):=by simp[Ix.named, *]
  rw[A];refine bZ au (fun _ a5 a6=>?_);have G:=G.mono a5;refine kM ?_;exact⟨_,rfl,.inr ⟨b27,1,[],rfl,aU _,a6⟩,rfl⟩
 refine jS ?_ ?_<;>intro av a7
 ·refine kC (wP f [97,120] N M _ G) ?_;refine dW 23 (str (aP f [97,120])) rfl (zC str (yF (bD _ _))) ?_;refine jL 1 ?_;intro b9 aw;refine jL 7 ?_;have A:Ix.named f=(Ix.rF,[aP f [97,120]]):=by simp[Ix.named, *]
  rw[A];refine bZ aw (fun _ a8 a9=>?_);have G:=G.mono a8;refine kM ?_;exact⟨_,rfl,.inr ⟨b9,1,[],rfl,aU _,a9⟩,rfl⟩
 refine jS ?_ ?_<;>intro ax aa
 ·refine kL (QD f 97 137 Ke.ED N M (fun s J h=>a7d s h J) _ G) ?_;intro _ _ _ ab ay;have G:=G.mono ab;obtain⟨vl,h,hv,rfl⟩:=ay;cases h;refine jL 7 ?_;have A:Ix.named f=(Ix.uH,f.subs.filterMap Ke.isb):=by simp[Ix.named, *]
  rw[A];refine kM ?_;exact⟨_,rfl,hv,rfl⟩
 refine jS ?_ ?_<;>intro az ac
 ·refine kL (QD f 99 215 uy N M (fun s J h=>b2f s h J) _ G) ?_;intro _ _ _ ad b0;have G:=G.mono ad;obtain⟨vl,h,hv,rfl⟩:=b0;cases h;refine jL 7 ?_;have A:Ix.named f=(Ix.IY,f.subs.filterMap Ix.yr):=by simp[Ix.named, *]
  rw[A];refine kM ?_;rw[←a6C];exact⟨_,rfl,hv,rfl⟩
 refine jL 10 ?_;have A:Ix.named f=([],[]):=by simp[Ix.named, *]
 rw[A];refine kM ?_;exact⟨_,rfl,.inl rT,rfl⟩
theorem VD fs v rk rl (a5:xP fs) I (ac:xO I fs v):jO aS 95 [a0O rk rl v] I []
 (fun e I' H'=>∃w,e= .returned w∧yB I' (Ix.vals fs) w∧H'=[]):=by
 have hfs:=a5.1;obtain⟨p,c,rfl,_,-⟩:=id ac.1;refine jU func95 fun w0 _=>?_;refine jL 3 ?_;intro _ _;refine jL 18 ?_;refine fZ (aZ gK) ?_;refine fH (ι:=VA) (fun y=>y.j≤fs.length∧Le I y.J∧vH y.J y.xs (Ix.vals (fs.take y.j))∧kZ w0.heap.size 3 y.xs.length (y.xs.flatMap GZ) y.g) (fun y=>fs.length-y.j) (fun y=>[(3,gV y.xs.length y.g),(12,.slice p fs.length c),(13,i64 (fs.length:Int)),(14,i64 (y.j:Int))]) (fun y=>y.J) (fun y=>gH 142 (y.xs.flatMap GZ) y.g) ⟨0,_,[],none⟩ ⟨dI _,fV _,⟨rfl,fun x hx=>by cases hx⟩,rfl,rfl⟩ rT rfl rfl ?_;rintro⟨j,_,xs,g⟩ ⟨hj,M,G,hg⟩;dsimp only at hj M G hg ⊢;have hr:=ac.mono M;have ad:=G.len;have b4:=a2n fs a5 j;refine jS ?_ ?_<;>intro ar ah
 ·have ae:j<fs.length:=oM;obtain⟨f,Z⟩:∃f,fs[j]?=some f:=⟨_,kW ae⟩;have af:=lX Z;obtain⟨au,ag,av⟩:=a5.2 f af;obtain⟨⟨p1,c1,aw,_,hp⟩,a6⟩:=id hr;cases aw;obtain⟨fb,fo,_,_,_,sp,rfl,S,ax⟩:=hp (jT ae);have O:=a6 f af;clear a6;obtain⟨p2,c2,ay,-,-⟩:=id O;have b5:=a2t f au;have ai:=DC f [];rw[DV]at ai;refine kJ (fo+j*4) ?_;refine J.z (q2 isAgg108 CU (fB S) (kY OU ax Z)) ?_;refine jL 1 ?_;intro b3 _;refine J.op rfl (oP 0 rfl rfl rfl rfl rfl (b2X ay) CU rfl rfl lsA lS.z ?_);refine kL (named_ok f oM ag _ O) ?_;intro _ I5 _ a0 az;have hr:=hr.mono a0;have G:=G.mono a0;have M:=M.mono a0;have S:=a0 _ _ S;have O:=O.mono a0;obtain⟨_,h,W,rfl⟩:=az;cases h;obtain⟨lp,lc,rfl⟩:=qB W;refine jL 16 ?_;refine fZ (Keeps.k bU) ?_;refine fH (ι:=VA) (fun y=>y.j≤(Ix.named f).2.length∧Le I5 y.J∧vH y.J y.xs (Ix.vals (fs.take j)++((Ix.named f).2.take y.j).map (nv f))∧kZ w0.heap.size 3 y.xs.length (y.xs.flatMap GZ) y.g) (fun y=>(Ix.named f).2.length-y.j) (fun y=>[(3,gV y.xs.length y.g),(5,ptr b3 0),(6,str (Ix.named f).1),(12,.slice (some ⟨fb,fo,none⟩) fs.length c),(13,i64 (fs.length:Int)),(14,i64 (j:Int)),(23,.slice lp (Ix.named f).2.length lc),(24,i64 ((Ix.named f).2.length:Int)),(25,i64 (y.j:Int))]) (fun y=>y.J) (fun y=>(b3,jM 108 (nS f))::gH 142 (y.xs.flatMap GZ) y.g) ⟨0,_,xs,g⟩ ⟨dI _,fV _,by dsimp only;rw[List.take_zero,gI,aB];exact G,hg⟩ rT rfl rfl ?_;rintro⟨q,_,xs,g⟩ ⟨hq,Q,G,hg⟩;dsimp only at hq Q G hg ⊢;have M:=M.mono Q;have hr:=hr.mono Q;have O:=O.mono Q;have W:=W.mono Q;have S:=Q _ _ S;have ad:=G.len;rw[aC,bI,bP,eG hq]at ad;refine jS ?_ ?_<;>intro b0 aj
  ·have a7:q<(Ix.named f).2.length:=oM;obtain⟨s,a2⟩:∃s,(Ix.named f).2[q]?=some s:=⟨_,kW a7⟩;have b6:=NC (lX a2);obtain⟨lb,_,_,al,a8⟩:=W.some (jT a7);cases al;refine kJ q ?_;refine J.z (jP rfl rfl lQ (fB a8) (nN a2)) ?_;refine kC (b4x f av _) ?_;refine kC (LX s ((Ix.vJ f:Nat):Int) oM _) ?_;refine kL (yE s oM _) ?_;intro _ _ _ A am;have hr:=hr.mono A;have G:=G.mono A;have O:=O.mono A;have W:=W.mono A;have S:=A _ _ S;have M:=M.mono A;have Q:=Q.mono A;have a8:=A _ _ a8;obtain⟨_,h,a9,rfl⟩:=am;cases h;obtain⟨_,_,rfl⟩:=qB a9;refine J.z (jX (pl:= #[(0,1),(1,1),(2,1)]) rfl rfl TI rfl IV (fun w=>by simp[WQ,kU]) (dJ rfl rfl rfl lsA (dJ rfl rfl rfl lsA (dJ rfl rfl rfl lsA pR.none)))) ?_;refine J.op rfl (jY rfl rfl rfl SX zW TI rfl rfl rfl rfl pG ?_);intro _ _;refine J.op rfl (kK (by':=55) [_,_] rfl rfl rfl rfl rfl SX (.inr ⟨_,SX⟩) kR zW TI rfl hg rfl (Src.slice (jR.at 0 rfl) rfl rfl (RZ a9 rfl rfl)) oM ?_);intro b1 an;refine jL 8 ?_;refine bY (aZ (Keeps.k bU)) ?_;refine bJ ⟨q+1,_,xs++[(nv f s,_)],b1⟩ ⟨dO,Q,by dsimp only;rw[yH (nv f) a2,←dP];exact G.add a9,by dsimp only;rw[aC,bC];exact an⟩ dO ⟨by dsimp only;rw[aC];rfl,rfl,rfl,rfl,rfl,rfl,rfl,rfl,rfl,trivial⟩ rfl (by dsimp only;rw[bC];rfl)
  rw[aO (oM:(Ix.named f).2.length≤q)]at G;refine kC (QK f.tag [48,48] dE _) ?_;refine oW ?_ ?_<;>intro a3
  ·refine kC (QK f.tag [57] dE _) ?_;refine mW ?_ ?_<;>intro a4
   ·have a1:Ix.xX f=true:=by unfold Ix.xX;rw[aV];exact⟨a3,a4⟩
    refine kC (wP f [] oM ag _ O) ?_;refine dW 52 (str (Ix.uT f)) rfl (zC str (DV f)) ?_;refine kC (LX (Ix.uT f) 0 oM _) ?_;refine kL (yE (Ix.uT f) oM _) ?_;intro _ _ _ N ao;have hr:=hr.mono N;have G:=G.mono N;have O:=O.mono N;have W:=W.mono N;have S:=N _ _ S;have M:=M.mono N;have Q:=Q.mono N;obtain⟨_,h,aa,rfl⟩:=ao;cases h;obtain⟨_,_,rfl⟩:=qB aa;refine J.z (jX (pl:= #[(0,1),(1,1),(2,1)]) rfl rfl TI rfl IV (fun w=>by simp[WQ,kU]) (dJ rfl rfl rfl lsA (dJ rfl rfl rfl lsA (dJ rfl rfl rfl lsA pR.none)))) ?_;refine J.op rfl (jY rfl rfl rfl SX zW TI rfl rfl rfl rfl pG ?_);intro _ _;refine J.op rfl (kK (by':=55) [_,_] rfl rfl rfl rfl rfl SX (.inr ⟨_,SX⟩) kR zW TI rfl hg rfl (Src.slice (jR.at 0 rfl) rfl rfl (RZ aa rfl rfl)) oM ?_);intro b2 ap;refine jL 8 ?_;refine bY (aZ (aZ bU)) ?_;refine bJ ⟨j+1,_,xs++[(⟨Ix.wI,Ix.uT f,0⟩,_)],b2⟩ ⟨dO,M,by dsimp only;rw[RU Z];unfold Ix.AA;rw[zF a1,←dP];exact G.add aa,by dsimp only;rw[aC,bC];exact ap⟩ dO ⟨by dsimp only;rw[aC];rfl,rfl,rfl,rfl,trivial⟩ rfl (by dsimp only;rw[bC];rfl)
   have a1:¬Ix.xX f=true:=by unfold Ix.xX;rw[aV];exact fun e=>cZ (e.2.symm.trans a4)
   refine jL 7 ?_;refine bY (aZ bU) ?_;refine bJ ⟨j+1,_,xs,g⟩ ⟨dO,M,by dsimp only;rw[RU Z];unfold Ix.AA;rw[zD a1,aB];exact G,by dsimp only;exact hg⟩ dO rT rfl rfl
  have a1:¬Ix.xX f=true:=by unfold Ix.xX;rw[aV];exact fun e=>cZ (e.1.symm.trans a3)
  refine jL 15 ?_;refine bY (aZ bU) ?_;refine bJ ⟨j+1,_,xs,g⟩ ⟨dO,M,by dsimp only;rw[RU Z];unfold Ix.AA;rw[zD a1,aB];exact G,by dsimp only;exact hg⟩ dO rT rfl rfl
 refine jL 6 ?_;have ab:fs.take j=fs:=aO oM;rw[ab]at G;refine Cj.perm (H':=gH _ _ _++[]) (.of_eq (aB _)) ?_;refine Cj.b6V FN dE hg rfl (fun _ aq hv=>?_);have G:=G.mono aq;refine jV ?_;exact⟨_,rfl,⟨xs,hv,G⟩,rfl⟩
end Go.Proofs.YtekmeaoblpfnpaaGreatDoor
end
namespace Go.Sx
open Go
section
variable {α β:Type}
variable {cx:Cx} {Q:Qt} {en:Env} {f:β→List Value} {sz:Nat} {T:TypeId} {R:HL} {c:Code}
end
section
variable {α β:Type} [BEq α] [LawfulBEq α]
abbrev kvp (p:α×Value×Nat):α×Value:=(p.1,p.2.1)
def QO (l:List (α×Value)) (a:α):Option Value:=match l with
 |[]=>none
 |(b,v)::r=>if a == b then some v else QO r a
def PN (l:List (α×Value)) (a:α) (v:Value):List (α×Value):=match l with
 |[]=>[(a,v)]
 |(b,u)::r=>if a == b then(b,v)::r else(b,u)::PN r a v
omit [LawfulBEq α] in
theorem a4v a:∀l:ML α,kH l a=QO (l.map kvp) a
 |[]=>rfl
 |(b,v,n)::r=>by simp only[kH,aH,QO,a4v a r]
omit [LawfulBEq α] in
theorem a4G a v c:∀l:ML α,(kN l a v c).map kvp=PN (l.map kvp) a v
 |[]=>rfl
 |(b,u,n)::r=>by
  simp only[kN,aH,PN]
  split
  ·rfl
  rw[aH,a4G a v c r]
theorem a6f{a u v B}:∀{A:List (α×Value)},a ∉ A.map (·.1)→PN (A++(a,u)::B) a v=A++(a,v)::B∧QO (A++(a,u)::B) a=some u
 |[],_=>by simp[PN,QO]
 |(b,w)::A,h=>by
  rw[aH,aF,not_or]at h;obtain⟨h1,h2⟩:=a6f (u:=u) (v:=v) (B:=B) h.2;have G:(a == b)=false:=by simpa using h.1
  simp only[fP,PN,QO,G,aN,if_false,h1,h2,and_self]
theorem a3W{a v}:∀{A:List (α×Value)},a ∉ A.map (·.1)→PN A a v=A++[(a,v)]∧QO A a=none
 |[],_=>rT
 |(b,w)::A,h=>by
  rw[aH,aF,not_or]at h;obtain⟨h1,h2⟩:=a3W (v:=v) h.2;have G:(a == b)=false:=by simpa using h.1
  simp only[fP,PN,QO,G,aN,if_false,h1,h2,and_self]
variable {cx:Cx} {Q:Qt} {e:Env} {I:Heap} {H H':HL}
theorem JA.perm{l N A Z z M G}(O:H'.Perm H)(k:JA cx Q l N A Z z M G e I H'):JA cx Q l N A Z z M G e I H:=fun a w S h1=>k a w S (h1.perm O)
end
section
variable {α β:Type} [BEq α] [LawfulBEq α] [BEq β] [LawfulBEq β]
abbrev vP (α β:Type):=List (α×Nat×ML β×Nat)
abbrev nvp (e:α×Nat×ML β×Nat):α×Value:=(e.1,.map (some e.2.1))
def zY (kv:β→Value) (N:vP α β):HL:=N.map fun e=>(e.2.1,kG kv e.2.2.1 e.2.2.2)
omit [BEq α] [LawfulBEq α] [BEq β] [LawfulBEq β] in
theorem QJ kv (A B:vP α β):zY kv (A++B)=zY kv A++zY kv B:=by unfold zY;rw[aA]
omit [BEq α] [LawfulBEq α] [BEq β] [LawfulBEq β] in
theorem a9K kv (A B:vP α β)(a:α)(b:Nat) m c:((b,kG kv m c)::zY kv (A++B)).Perm (zY kv (A++(a,b,m,c)::B)):=by
 rw[QJ,QJ];exact(List.perm_middle).symm
def cv (n:Nat):Option Value:=if n=0 then none else some (i64 (n:Int))
def bump (f:α→β→Nat) (a:α) (b:β) (d:Nat→Nat) (x:α) (y:β):Nat:=if x == a && y == b then d (f x y)else f x y
structure lD (l:ML α) (c:Nat) (N:vP α β) (f:α→β→Nat):Prop where
  ms:MS l c
  vals:l.map kvp=N.map nvp
  inn:∀e∈N,MS e.2.2.1 e.2.2.2∧e.2.2.1≠[]∧∀t,kH e.2.2.1 t=cv (f e.1 t)
  out:∀a,a ∉ N.map (·.1)→∀t,f a t=0
omit [BEq α] [LawfulBEq α] [LawfulBEq β] in
theorem lD.nil:lD ([]:ML α) 0 ([]:vP α β) (fun _ _=>0):=⟨MS.nil,rfl,fun _ h=>(by cases h),fun _ _ _=>rfl⟩
omit [BEq α] [LawfulBEq α] [BEq β] [LawfulBEq β] in
theorem VT(N:vP α β):(N.map nvp).map (·.1)=N.map (·.1):=by rw[bK];rfl
omit [BEq α] [LawfulBEq α] [LawfulBEq β] in
theorem lD.keys{l:ML α}{c:Nat}{N:vP α β}{f:α→β→Nat}(h:lD l c N f):l.map (·.1)=N.map (·.1):=by
 rw[←VT N,←h.vals,bK];rfl
omit [BEq α] [LawfulBEq α] [LawfulBEq β] in
theorem lD.nodup{l:ML α}{c:Nat}{N:vP α β}{f:α→β→Nat}(h:lD l c N f):(N.map (·.1)).Nodup:=h.keys▸h.ms.1
omit [LawfulBEq β] in
theorem lD.find{l:ML α}{c:Nat}{N:vP α β}{f:α→β→Nat}(h:lD l c N f)(a:α):
 (a ∉ N.map (·.1)∧kH l a=none∧∀t,f a t=0)∨∃A b m k B,N=A++(a,b,m,k)::B∧kH l a=some (.map (some b))∧MS m k∧m≠[]∧(∀t,kH m t=cv (f a t))∧a ∉ A.map (·.1)∧a ∉ B.map (·.1):=by
 by_cases ha:a∈N.map (·.1)
 ·obtain⟨⟨M,b,m,k⟩,O,rfl⟩:=aX.1 ha;obtain⟨A,B,rfl⟩:=fG O;have G:=h.nodup;rw[aA,aH,dQ,eH]at G;have h1:M ∉ A.map (·.1):=fun g=>G.2.2 _ g _ (.head _) rfl;have h2:kH l M=some (.map (some b)):=by
   rw[a4v,h.vals,aA,aH];exact(a6f (v:= .map none) (by rw[VT];exact h1)).2
  obtain⟨h3,Q,S⟩:=h.inn _ O;exact .inr ⟨A,b,m,k,B,rfl,h2,h3,Q,S,h1,G.2.1.1⟩
 refine .inl ⟨ha,?_,h.out a ha⟩;rw[pI,h.keys];exact ha
theorem lD.set{l c}{A B:vP α β}{f}{a:α}{b k O:Nat}{m M:ML β}{t:β}{d:Nat→Nat}(h:lD l c (A++(a,b,m,k)::B) f)
 (h1:MS M O)(h2:M≠[])(h3:∀s,kH M s=if s == t then cv (d (f a t))else kH m s):lD l c (A++(a,b,M,O)::B) (bump f a t d):=by
 have Q:=h.nodup;rw[aA,aH,dQ,eH]at Q;have hA:∀e∈A++B,e.1≠a:=by
  intro e G g;rcases aK.1 G with G|G
  ·exact Q.2.2 _ (dH G) _ (.head _) g
  exact Q.2.1.1 (aX.2 ⟨e,G,g⟩)
 refine⟨h.ms,?_,fun e G=>?_,fun x W s=>?_⟩
 ·rw[h.vals];simp
 ·have N:e∈A++B∨e=(a,b,M,O):=by
   rcases aK.1 G with G|G
   ·exact .inl (dF _ G)
   rcases aF.1 G with G|G
   ·exact .inr G
   exact .inl (dA _ G)
  rcases N with G|rfl
  ·obtain⟨g1,g2,S⟩:=h.inn e (by rcases aK.1 G with G|G;exact dF _ G;exact dA _ (.tail _ G));refine⟨g1,g2,fun s=>?_⟩;have:(e.1 == a)=false:=by simpa using hA e G
   rw[S];unfold bump;rw[this];rfl
  refine⟨h1,h2,fun s=>?_⟩;dsimp only;rw[h3];obtain⟨_,_,S⟩:=h.inn (a,b,m,k) sI;unfold bump
  by_cases hs:(s == t)=true
  ·have:=zB hs;subst this;simp
  simp only[hs,if_false,beq_self_eq_true,dK,aN];exact S s
 have Z:x ∉ (A++(a,b,m,k)::B).map (·.1):=by simpa using W
 have a0:(x == a)=false:=by
  have:x≠a:=fun g=>W (by rw[g];simp);simpa using this
 unfold bump;rw[a0];exact h.out x Z s
theorem lD.add{l c N f}{a:α}{b Q:Nat}{G}{t:β}{d:Nat→Nat}(h:lD l c N f)(M:a ∉ N.map (·.1))
 (h1:MS G Q)(h2:G≠[])(h3:∀s,kH G s=if s == t then cv (d 0)else none):lD (kN l a (.map (some b)) c) (mV l a c) (N++[(a,b,G,Q)]) (bump f a t d):=by
 refine⟨h.ms.set a _,?_,fun e A=>?_,fun x O s=>?_⟩
 ·rw[a4G,h.vals,(a3W (by rw[VT];exact M)).1,aA];rfl
 ·rcases aK.1 A with A|A
  ·obtain⟨W,Z,g3⟩:=h.inn e A;refine⟨W,Z,fun s=>?_⟩;have:(e.1 == a)=false:=by
    have:e.1≠a:=fun g=>M (g▸dH A);simpa using this
   rw[g3];unfold bump;rw[this];rfl
  rw[aJ.1 A];refine⟨h1,h2,fun s=>?_⟩;dsimp only;rw[h3,←h.out a M t];unfold bump
  by_cases hs:(s == t)=true
  ·have:=zB hs;subst this;simp
  simp only[hs,if_false,beq_self_eq_true,dK,aN];rw[h.out a M s];rfl
 rw[aA,aK,not_or]at O;have S:(x == a)=false:=by
  have:x≠a:=by simpa using O.2
  simpa using this
 unfold bump;rw[S];exact h.out x O.1 s
theorem lD.drop{l c}{A B:vP α β}{f}{a:α}{b k:Nat}{m:ML β}{t:β}{d:Nat→Nat}(h:lD l c (A++(a,b,m,k)::B) f)
 (h1:∀s,s≠t→f a s=0)(h2:d (f a t)=0):lD (nX l a) c (A++B) (bump f a t d):=by
 have M:=h.nodup;rw[aA,aH,dQ,eH]at M;have O:∀e∈A++B,e.1≠a:=by
  intro e G g;rcases aK.1 G with G|G
  ·exact M.2.2 _ (dH G) _ (.head _) g
  exact M.2.1.1 (aX.2 ⟨e,G,g⟩)
 refine⟨h.ms.del a,?_,fun e G=>?_,fun x N s=>?_⟩
 ·have h3:(nX l a).map kvp=(l.map kvp).filter fun p=> !(p.1 == a):=by
   rw[rY h.ms.1,eF];rfl
  rw[h3,h.vals,aA,aH,bH,dY sI,←bH,←aA];rw[dG.2];intro p S;obtain⟨e,G,rfl⟩:=aX.1 S;have:=O e G;simpa using this
 ·obtain⟨W,Z,g3⟩:=h.inn e (by rcases aK.1 G with G|G;exact dF _ G;exact dA _ (.tail _ G));refine⟨W,Z,fun s=>?_⟩;have:(e.1 == a)=false:=by simpa using O e G
  rw[g3];unfold bump;rw[this];rfl
 unfold bump
 by_cases hxa:x=a
 ·subst hxa
  by_cases hs:s=t
  ·subst hs;simp[h2]
  have:(s == t)=false:=by simpa using hs
  simp only[this,Bool.and_false,aN,if_false];exact h1 s hs
 have Q:(x == a)=false:=by simpa using hxa
 rw[Q];refine h.out x ?_ s;rw[aA,aH,aK,aF,not_or,not_or];rw[aA,aK,not_or]at N;exact⟨N.1,hxa,N.2⟩
theorem a9y{m}{g:β→Nat}(G:∀s,kH m s=cv (g s)) t (n:Nat)(A:n≠0) k:∀s,kH (kN m t (i64 (n:Int)) k) s=if s == t then cv n else kH m s:=by
 intro s;rw[wB];unfold cv;rw[zD A]
omit [LawfulBEq β] in
theorem b0b{m}{g:β→Nat}(A:∀s,kH m s=cv (g s)) t:(kH m t).getD (i64 0)=i64 (g t:Int):=by
 rw[A];unfold cv
 split
 ·rename_i h;rw[h];rfl
 rfl
end
section
variable {P:Program} {K i:TypeId} {f0 f1:Field}
theorem a1w{b t}(A:P.underlying t=some .string) a d w:(gB b (d+1) t (str a)).run P w= .ok () w:=by simp[gB,run_underlying A]
theorem a2q{t}(A:P.underlying t=some .string) a b d w:(Op.equalIn (d+1) t (str a) (str b)).run P w= .ok (a == b) w:=by
 have h:((⟨a.toArray⟩:ByteArray) == ⟨b.toArray⟩)=(a == b):=by
  show(a.toArray == b.toArray)=(a == b);simp
 simp[Op.equalIn,run_underlying A,str,h]
theorem mY.b6E(N:P.underlying K=some (.struct #[f0,f1]))(Z:P.stoodInHeld K=false)(O:f0.name≠ "_")(Q:f1.name≠ "_")(S:f0.offset=0)(W:f1.offset=1)(t0:f0.type=i)(A:f1.type=i)(G:P.underlying i=some .string)(M:∀w,(isAgg i).run P w= .ok false w):
 mY P K (fun a:List UInt8×List UInt8=> .agg #[str a.1,str a.2]):=by
 subst t0;refine mY.equal N (fun a b=>rfl) (fun a b w=>?_) (fun b a w=>?_) (fun a=>?_)
 ·have h:=KE N Z O Q S W M (A▸M) (x0:=str a.1) (x1:=str a.2) (y0:=str b.1) (y1:=str b.2) w (fun d w=>a2q G a.1 b.1 d w) (fun d w=>a2q (A▸G) a.2 b.2 d w) 9998;exact h
 ·exact VJ N O Q S W M (A▸M) b w (fun d w=>a1w G _ d w) (fun d w=>a1w (A▸G) _ d w) 9998
 show gG (9999+1) _ _=true;have h:=fun x n=>PX x n;simp[gG,h]
