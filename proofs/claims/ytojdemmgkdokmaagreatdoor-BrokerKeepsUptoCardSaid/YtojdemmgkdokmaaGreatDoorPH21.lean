/-
  Own texts on the laws of the seat, joined: the logic, and contracts of functions. Conditions: none.
-/
import Derived.Test.YtojdemmgkdokmaaGreatDoorNmH
import Derived.Test.YtojdemmgkdokmaaGreatDoorPH20
set_option linter.all false
set_option maxRecDepth 100000
set_option maxHeartbeats 40000000
open List renaming mem_flatMap -> aA,mem_cons -> aC,mem_append_right -> aF,getElem?_set_ne -> aG,mem_map -> aH,mem_append -> aK,getElem?_set_self -> aN,mem_append_left -> aO,mem_singleton -> aP
open Go.Proofs.Tryz renaming prog -> aB,underlying3 -> aI,underlying49 -> aQ
open Option.some renaming inj -> aJ
namespace Go.Proofs.YtojdemmgkdokmaaGreatDoor
open Go Go.Sx
def a1M (Ts:List Nat) (I J:Heap):Prop:=∀b o,I b=some o→(∀T∈Ts,∀cs,o≠yY T cs)→J b=some o
theorem a5X{B I Ts}(Z:∀p∈B,I p.1=some p.2)(hT:∀p∈B,∃T∈Ts,∃cs,p.2=yY T cs):a1M Ts I (hless B I):=fun b o h h1=>by
 have A:b ∉ B.map (·.1):=fun A=>by
  obtain⟨p,G,rfl⟩:=aH.1 A;rw[Z p G]at h;obtain⟨T,O,cs,g⟩:=hT p G;exact h1 T O cs (by rw[←g];exact(aJ h).symm)
 rw[a0A A];exact h
theorem b5a{T U cs ds}(h:T≠U):yY T cs≠yY U ds:=fun e=>by
 unfold yY at e;injection e with _ e;exact h e
theorem a7j{α:Type}{T:TypeId}{f:α→List Value}{I J:Heap}{l:List α}{v:Value}{Ts:List Nat}(h:SN T f I l v)(A:a1M Ts I J)(h1:∀U∈Ts,T≠U):SN T f J l v:=
 let ⟨p,c,G,O,Z⟩:=h;⟨p,c,G,O,fun hn=>let ⟨b,sp,g4,g5⟩:=Z hn;⟨b,sp,g4,A b _ g5 fun U hU _=>b5a (h1 U hU)⟩⟩
def a0D (T sz:Nat) (F:HL) (n:Nat) (v:Value):Prop:=∃p c,v= .slice p n c∧(0<n→∃b cs,p=some ⟨b,0,none⟩∧(b,yY T cs)∈F∧n*sz≤cs.length)
theorem a8K{T U cs ds}(h:yY T cs=yY U ds):T=U∧cs=ds:=by
 unfold yY at h;injection h with h3 h4;exact⟨h4,by simpa using zD Array.toList h3⟩
theorem c4b{F:HL}{i b T cs}(hi:F[i]?=some (b,yY T cs)) o x {O Z A}(h:(O,yY Z A)∈F):((O,yY Z A)∈F.set i (b,yY T (cs.set o x)))∨(O=b∧Z=T∧A=cs∧(O,yY Z (A.set o x))∈F.set i (b,yY T (cs.set o x))):=by
 obtain⟨a0,_⟩:=List.getElem?_eq_some_iff.1 hi;obtain⟨j,G⟩:=List.getElem?_of_mem h
 by_cases he:i=j
 ·subst he;rw[hi]at G;injection G with G;injection G with h1 h2;obtain⟨h4,h5⟩:=a8K h2;subst h1 h4 h5;exact .inr ⟨rfl,rfl,rfl,FB (i:=i) (by rw[aN a0])⟩
 exact .inl (FB (i:=j) (by rw[aG he];exact G))
theorem mem_set{F:HL}{i b T cs}(Z:F[i]?=some (b,yY T cs)) o x {G O A}(h:(G,yY O A)∈F.set i (b,yY T (cs.set o x))):(G,yY O A)∈F∨(G=b∧O=T∧A=cs.set o x∧(G,yY O cs)∈F):=by
 rcases List.mem_or_eq_of_mem_set h with g|g
 ·exact .inl g
 injection g with h1 h2;obtain⟨h4,h5⟩:=a8K h2;subst h1 h4;exact .inr ⟨rfl,rfl,h5,FB Z⟩
theorem a0D.set{T sz F n v}(h:a0D T sz F n v){i b A cs}(hi:F[i]?=some (b,yY A cs)) o x:a0D T sz (F.set i (b,yY A (cs.set o x))) n v:=by
 obtain⟨p,c,h1,h2⟩:=h;refine⟨p,c,h1,fun h0=>?_⟩;obtain⟨G,O,h3,h4,Z⟩:=h2 h0;rcases c4b hi o x h4 with g|⟨_,_,_,g⟩
 ·exact⟨G,O,h3,g,Z⟩
 exact⟨G,_,h3,g,by rw[List.length_set];exact Z⟩
def a1K:List Nat→List Nat
 |[]=>[]
 |a::r=>if a∈a1K r then a1K r else a::a1K r
theorem a0F{x}:∀{l:List Nat},x∈a1K l↔x∈l
 |[]=>Iff.rfl
 |a::r=>by
  unfold a1K
  split
  ·rename_i h
   rw[a0F,aC];exact⟨.inr,fun g=>g.elim (fun e=>by rw[e];exact a0F.1 h) id⟩
  rw[aC,aC,a0F]
theorem a2i:∀(l:List Nat),(a1K l).Nodup
 |[]=>List.nodup_nil
 |a::r=>by
  unfold a1K
  split
  ·exact a2i r
  rename_i h
  exact List.nodup_cons.2 ⟨h,a2i r⟩
def a2X:Value→List Nat
 | .slice (some a) _ _=>[a.block]
 |_=>[]
def PW (J:Heap) (l:List Nat):HL:=(a1K l).map fun b=>(b,(J b).getD (yY 0 []))
theorem a3a{α:Type}{N:Nat→Prop}{T:TypeId}{f:α→List Value}{J:Heap}{l:List α}{v:Value}(h:KF N T f J l v)(hn:l≠[]){b:Nat}(A:b∈a2X v):N b∧∃cs,J b=some (yY T cs):=by
 obtain⟨p,c,rfl,_,h3⟩:=h;obtain⟨G,sp,rfl,O,Z⟩:=h3 hn;rw[show b=G by simpa[a2X]using A];exact⟨O,_,Z⟩
theorem c6E{J l b o}(h:b∈l)(A:J b=some o):(b,o)∈PW J l:=
 aH.2 ⟨b,a0F.2 h,by rw[A];rfl⟩
theorem b5G{N:Nat→Prop}{J l}{Ts:List Nat}(h:∀b∈l,N b∧∃T∈Ts,∃cs,J b=some (yY T cs)):((PW J l).map (·.1)).Nodup∧(∀p∈PW J l,J p.1=some p.2)∧(∀p∈PW J l,∃T∈Ts,∃cs,p.2=yY T cs)∧∀p∈PW J l,N p.1:=by
 have A:∀p∈PW J l,p.1∈l∧p.2=(J p.1).getD (yY 0 []):=fun p A=>by
  obtain⟨b,O,rfl⟩:=aH.1 A;exact⟨a0F.1 O,rfl⟩
 have G:∀p∈PW J l,J p.1=some p.2:=fun p hq=>by
  obtain⟨h1,h2⟩:=A p hq;obtain⟨_,T,_,cs,g⟩:=h _ h1;rw[h2,g];rfl
 refine⟨?_,G,fun p hq=>?_,fun p hq=>(h _ (A p hq).1).1⟩
 ·unfold PW;rw[List.map_map,show((fun x:Nat×Obj=>x.1)∘fun b=>(b,(J b).getD (yY 0 [])))=id from rfl,List.map_id];exact a2i _
 obtain⟨_,T,Z,cs,g⟩:=h _ (A p hq).1;exact⟨T,Z,cs,aJ ((G p hq).symm.trans g)⟩
theorem a5E{α:Type}{N:Nat→Prop}{T sz:Nat}{f:α→List Value}(hf:∀x,(f x).length=sz){J l v}{B:List Nat}(h:KF N T f J l v)(A:l≠[]→∀b∈a2X v,b∈B):a0D T sz (PW J B) l.length v:=by
 obtain⟨p,c,h1,h2,h3⟩:=h;refine⟨p,c,h1,fun h0=>?_⟩;have hn:l≠[]:=fun g=>by rw[g]at h0;cases h0
 obtain⟨b,sp,rfl,_,G⟩:=h3 hn;exact⟨b,_,rfl,c6E (A hn b (by rw[h1];exact aP.2 rfl)) G,by rw[List.length_append,DN hf];omega⟩
def XI (r:List Fv):List Nat:=r.flatMap fun z=>if z.f.p=[]then[]else a2X z.v
def a9q (F:HL) (r:List Fv):Prop:=∀z∈r,a0D 3 1 F z.f.p.length z.v
theorem a9q.set{F r}(h:a9q F r){i b A cs}(G:F[i]?=some (b,yY A cs)) o x:a9q (F.set i (b,yY A (cs.set o x))) r:=fun z hz=>(h z hz).set G o x
theorem c5P{I J r}(h:∀z∈r,FvN I J z):(((PW J (XI r)).map (·.1)).Nodup∧(∀p∈PW J (XI r),J p.1=some p.2)∧(∀p∈PW J (XI r),∃T∈[3],∃cs,p.2=yY T cs)∧∀p∈PW J (XI r),I p.1=none)∧a9q (PW J (XI r)) r:=by
 refine⟨b5G (N:=fun b=>I b=none) fun b A=>?_,fun z hz=>a5E LP (h z hz).1 fun hn b A=>?_⟩
 ·unfold XI at A;obtain⟨z,hz,g⟩:=aA.1 A
  split at g
  ·cases g
  rename_i hn
  obtain⟨h1,cs,h2⟩:=a3a (h z hz).1 hn g;exact⟨h1,3,.head _,cs,h2⟩
 unfold XI;refine aA.2 ⟨z,hz,?_⟩;rw[zF hn];exact A
def QS (v:Value) (es:List RJ):List Nat:=(if es=[]then[]else a2X v)++es.flatMap fun e=>(if e.fs=[]then[]else a2X e.v)++e.fs.flatMap fun f=>if f.subs=[]then[]else a2X f.sv
def b7e (F:HL) (es:List RJ):Prop:=∀e∈es,a0D 60 4 F e.fs.length e.v∧∀(j:Nat) f,e.fs[j]?=some f→a0D 62 2 F f.subs.length f.sv∧∀b n c cs,e.v= .slice (some ⟨b,0,none⟩) n c→(b,yY 60 cs)∈F→cs[j*4+3]?=some f.sv
def a2v (F:HL) (es:List RJ) (v:Value):Prop:=b7e F es∧a0D 57 5 F es.length v∧∀(k:Nat) e,es[k]?=some e→∀b n c cs,v= .slice (some ⟨b,0,none⟩) n c→(b,yY 57 cs)∈F→cs[k*5+4]?=some e.v∧∃z:Int,cs[k*5+1]?=some (i64 z)
theorem b7e.set{F es}(h:b7e F es){i b T cs}(A:F[i]?=some (b,yY T cs)) o x (O:T≠60):b7e (F.set i (b,yY T (cs.set o x))) es:=fun e Z=>by
 obtain⟨h1,h2⟩:=h e Z;refine⟨h1.set A o x,fun j f hf=>⟨(h2 j f hf).1.set A o x,fun b2 n c G hv hm=>?_⟩⟩;rcases mem_set A o x hm with g|⟨rfl,hT,rfl,g⟩
 ·exact(h2 j f hf).2 b2 n c G hv g
 exact absurd hT.symm O
theorem a2v.c7B{F es v}(h:a2v F es v){i b cs}(A:F[i]?=some (b,yY 62 cs)) o x:a2v (F.set i (b,yY 62 (cs.set o x))) es v:=by
 refine⟨h.1.set A o x dE,h.2.1.set A o x,fun k e O Z n c G hv hm=>?_⟩;rcases mem_set A o x hm with g|⟨rfl,hT,rfl,g⟩
 ·exact h.2.2 k e O Z n c G hv g
 exact absurd hT dE
theorem a2v.c7C{F es v}(h:a2v F es v){i b cs}(A:F[i]?=some (b,yY 57 cs)) k z (hk:k*5+1<cs.length):a2v (F.set i (b,yY 57 (cs.set (k*5+1) (i64 z)))) es v:=by
 refine⟨h.1.set A _ _ dE,h.2.1.set A _ _,fun G e O Z n c a0 hv hm=>?_⟩;rcases mem_set A _ _ hm with g|⟨rfl,hT,rfl,g⟩
 ·exact h.2.2 G e O Z n c a0 hv g
 obtain⟨h1,z2,h2⟩:=h.2.2 G e O Z n c cs hv g;refine⟨by rw[aG oM];exact h1,?_⟩
 by_cases hkk:G=k
 ·subst hkk;exact⟨z,aN hk⟩
 rw[aG oM];exact⟨z2,h2⟩
theorem a7q{J:Heap}{F:HL}(A:∀p∈F,J p.1=some p.2){b T cs ds}(G:(b,yY T cs)∈F)(h:J b=some (yY T ds)):cs=ds:=(a8K (aJ ((A _ G).symm.trans h))).2
theorem c3X{I J:Heap}{es v}(h:a3u (fun b=>I b=none) J es v):(((PW J (QS v es)).map (·.1)).Nodup∧(∀p∈PW J (QS v es),J p.1=some p.2)∧(∀p∈PW J (QS v es),∃T∈[60,62,57],∃cs,p.2=yY T cs)∧∀p∈PW J (QS v es),I p.1=none)∧a2v (PW J (QS v es)) es v:=by
 have O:=b5G (N:=fun b=>I b=none) (J:=J) (l:=QS v es) (Ts:=[60,62,57]) fun b G=>by
  unfold QS at G;rcases aK.1 G with g|g
  ·split at g
   ·cases g
   rename_i hn
   obtain⟨h1,cs,h2⟩:=a3a h.1 hn g;exact⟨h1,_,.tail _ (.tail _ (.head _)),cs,h2⟩
  obtain⟨e,A,g⟩:=aA.1 g;rcases aK.1 g with g|g
  ·split at g
   ·cases g
   rename_i hn
   obtain⟨h1,cs,h2⟩:=a3a (h.2 e A).1 hn g;exact⟨h1,_,.head _,cs,h2⟩
  obtain⟨f,hf,g⟩:=aA.1 g
  split at g
  ·cases g
  rename_i hn
  obtain⟨h1,cs,h2⟩:=a3a ((h.2 e A).2 f hf) hn g;exact⟨h1,_,.tail _ (.head _),cs,h2⟩
 have hJ:=O.2.1;refine⟨O,fun e A=>⟨?_,fun j f hf=>⟨?_,fun b n c cs Z hm=>?_⟩⟩,?_,fun k e A b n c cs Z hm=>?_⟩
 ·refine a5E PY (h.2 e A).1 fun hn b G=>?_;unfold QS;refine aF _ (aA.2 ⟨e,A,aO _ ?_⟩);rw[zF hn];exact G
 ·refine a5E ZW ((h.2 e A).2 f (FB hf)) fun hn b G=>?_;unfold QS;refine aF _ (aA.2 ⟨e,A,aF _ (aA.2 ⟨f,FB hf,?_⟩)⟩);rw[zF hn];exact G
 ·obtain⟨p,c2,h1,h2,h3⟩:=(h.2 e A).1;obtain⟨b2,sp,rfl,_,h5⟩:=h3 (fun g=>by rw[g]at hf;cases hf);rw[h1]at Z;cases Z;rw[a7q hJ hm h5];exact XC PY hf 3 dE
 ·refine a5E XE h.1 fun hn b G=>?_;unfold QS;refine aO _ ?_;rw[zF hn];exact G
 obtain⟨p,c2,h1,h2,h3⟩:=h.1;obtain⟨b2,sp,rfl,_,h5⟩:=h3 (fun g=>by rw[g]at A;cases A);rw[h1]at Z;cases Z;rw[a7q hJ hm h5];exact⟨XC XE A 4 dE,e.t.2,XC XE A 1 dE⟩
abbrev TsE:List Nat:=[60,62,57]
theorem a7Z{Ts:List Nat}{T}(h:∀U∈Ts,T≠U) cs:∀U∈Ts,∀ds,yY T cs≠yY U ds:=fun U A _=>b5a (h U A)
theorem b7r{I J l v}(h:JX 9 I l v)(A:a1M TsE I J):JX 9 J l v:=
 h.imp id fun⟨b,c,sp,h1,h2,h3⟩=>⟨b,c,sp,h1,h2,A b _ h3 (a7Z dE _)⟩
theorem b4v{I J vs v}(h:TU I vs v)(A:a1M TsE I J):TU J vs v:=
 let ⟨xs,h1,h2,h3⟩:=h;⟨xs,a7j h1 A dE,h2,fun x G=>b7r (h3 x G) A⟩
theorem b4b{I J s L}(h:JE I s L)(A:a1M TsE I J):JE J s L:=
 ⟨h.LD,h.big,h.vok,h.vms,fun t=>⟨(h.vals t).1,fun vs G=>let ⟨w,h1,h2⟩:=(h.vals t).2 vs G;⟨w,h1,b4v h2 A⟩⟩,h.nw,h.nk⟩
theorem b7E{I J o L}(h:XU I o L)(A:a1M TsE I J):XU J o L:=by
 cases o with
 |none=>exact h
 |some s=>exact b4b h A
theorem a3s{α:Type}{kv:α→Value}{l:ML α}{c T:Nat}{cs:List Value}:BD kv l c≠yY T cs:=fun e=>by unfold BD yY at e;injection e
theorem a5N{b l c N p}(h:p∈setH b l c N) T cs:p.2≠yY T cs:=by
 unfold setH at h;rcases aC.1 h with rfl|h
 ·exact a3s
 unfold WS at h;obtain⟨e,_,rfl⟩:=aH.1 h;exact a3s
theorem b6h{A o p}(h:p∈ixH A o):∀T∈TsE,∀cs,p.2≠yY T cs:=by
 cases o with
 |none=>
  rw[aP.1 h];exact a7Z dE _
 |some s=>
  have h:p∈a1o A s:=h;unfold a1o at h;rcases aC.1 h with rfl|h
  ·exact fun _ _ _=>a3s
  rcases aC.1 h with rfl|h
  ·exact a7Z dE _
  rcases aK.1 h with h|h
  ·exact fun _ _ cs=>a5N h _ cs
  exact fun _ _ cs=>a5N h _ cs
theorem b7P{I J A L}(h:UW I A L)(G:a1M TsE I J):UW J A L:=
 let ⟨o,h1,h2⟩:=h;⟨o,b7E h1 G,fun p O=>G _ _ (h2 p O) (b6h O)⟩
theorem b7v{I J G b}(h:TP I G b)(A:a1M TsE I J):TP J G b:=
 let ⟨O,Z,l,c,h1,h2,h3,h4,h5,h6⟩:=h
 ⟨O,Z,l,c,A _ _ h1 (a7Z dE _),b7P h2 A,h3,h4,h5,A _ _ h6 fun _ _ _=>a3s⟩
end Go.Proofs.YtojdemmgkdokmaaGreatDoor
namespace Go.Proofs.YtojdemmgkdokmaaGreatDoor
open Go.ChangeShapes Go.WideShapes Go.ChangeAt Go.RowKit Go.Sx Go.Lib Go.ChangeMaps Go.WideMaps
section
variable {H:Type} {enc:TypeId×Value→H} {W:World} {base:Nat}
theorem Arg.a8r{fs:Array Field}{cs:List Value}{ms:List Nat}(h:∀(i:Nat) f m',fs[i]?=some f→ms[i]?=some m'→Arg enc W f.type ((cs.drop f.offset).take (aB.cellsOf f.type)) m')(i:Nat){f m t o k}
 (hf:fs[i]?=some f)(A:ms[i]?=some m)(G:f.type=t)(O:f.offset=o)(Z:aB.cellsOf t=k):Arg enc W t ((cs.drop o).take k) m:=by
 subst G O Z;exact h i f m hf A
theorem b9t{α:Type}{l:List α}(h:l.length=4):∃a b c d,l=[a,b,c,d]:=by
 match l,h with
 |[a,b,c,d],_=>exact⟨a,b,c,d,rfl⟩
theorem zY.b2W{α:Type}{f:α→List Value}{I:Heap}{l:List α}{v:Value}(h:zY f I l v):∃p c,v= .slice p l.length c:=let ⟨p,c,h1,_⟩:=h;⟨p,c,h1⟩
theorem Arg.item{cs m}(h:Arg enc W 100 cs m):∃x:Fv,cs=FK x∧zY GY (HW W) x.f.p x.v:=by
 obtain⟨G,ms,O,_,hf⟩:=h.struct Tryz.underlying100;rw[show aB.cellsOf 100=4 by kernel_rfl]at G;obtain⟨a,b,c,d,rfl⟩:=b9t G;obtain⟨_,m1,m2,m3,rfl⟩:=b9t O;have A:aB.cellsOf 3=1:=kR;obtain⟨Z,h0,_,_⟩:=(Arg.a8r hf (o:=0) 0 rfl rfl rfl rfl A).int aI;obtain⟨z1,h1,_,_⟩:=(Arg.a8r hf (o:=1) 1 rfl rfl rfl rfl A).int aI;obtain⟨s2,h2,_⟩:=(Arg.a8r hf (o:=2) 2 rfl rfl rfl rfl (show aB.cellsOf 9=1 by kernel_rfl)).str Tryz.underlying9;obtain⟨l,v,h3,hr,_⟩:=(Arg.a8r hf (o:=3) 3 rfl rfl rfl rfl (show aB.cellsOf 39=1 by kernel_rfl)).ints Tryz.underlying39 aI A;simp only[List.drop_zero,List.drop_succ_cons,List.take_succ_cons,List.take_zero,List.cons.injEq,and_true]at h0 h1 h2 h3;subst h0 h1 h2 h3;obtain⟨p,k,rfl⟩:=zY.b2W hr;exact⟨⟨⟨(Z,z1),s2,l⟩,p,k⟩,rfl,hr⟩
theorem Arg.items{cs m}(h:Arg enc W 98 cs m):∃x:Rw Fv,cs=WH x∧a9s (HW W) x:=by
 obtain⟨l,v,h1,h2,_,_,A⟩:=h.row (f:=FK) (size:=fun _=>0) Tryz.underlying98 (show aB.cellsOf 100=4 by kernel_rfl) dE (fun x=>zY GY (HW W) x.f.p x.v) fun cs G _ h=>by
  obtain⟨x,h1,h2⟩:=h.item;exact⟨x,h1,Nat.zero_le _,h2⟩
 obtain⟨p,k,rfl⟩:=zY.b2W h2;exact⟨⟨l,p,k⟩,h1,h2,A⟩
theorem b8n{v d p}(A:Value.okWide aB W .any base 49 v)(h:DataW.Trod enc aB W 0 (fun _=>true) true 49 v d p)(G:∀x∈p,x.block<W.heap.size):
 ∃L:List (Rw Fv),LsA (HW W) L v∧Again enc W 49 v d p:=by
 have O:=again kR (zB kR) h G;obtain⟨a,len,Z,rfl⟩:=okWide_slice aQ A;obtain⟨xs,v',h1,h2,_,_,h4⟩:=(Arg.of h).row (f:=WH) (size:=fun _=>0) aQ (show aB.cellsOf 98=1 by kernel_rfl) dE (fun x:Rw Fv=>a9s (HW W) x) fun cs m' _ h=>by
  obtain⟨x,h1,h2⟩:=h.items;exact⟨x,h1,Nat.zero_le _,h2⟩
 obtain rfl:Value.slice a len Z=v':=by simpa[Value.cells]using h1
 exact⟨xs,⟨h2,h4⟩,O⟩
