/-
  Own texts on the laws of the seat, joined: the logic, and contracts of functions. Conditions: none.
-/
import Derived.Test.YtekmeaoblpfnpaaGreatDoorPA1
import Derived.Laws.RangeAny
import Derived.Scope
import Derived.Below
import Derived.Lib.Builder
import Derived.Lib.UnsafeStr
import Derived.Laws.Externs
import Derived.Recover
import Derived.Laws.MakeOwn
import Derived.LoopN
import Derived.RangeFuncRecord
import Derived.Sort.Walk0
import Derived.Sort.Grow
import Derived.Sort.EncStr
set_option linter.all false
set_option maxRecDepth 100000
set_option maxHeartbeats 40000000
open Go.Result renaming andThen_ok -> aA,andThen -> dR
open Go.Sem renaming run_bind -> aB,run_pure -> aG,run -> dQ
open List renaming mem_append_left -> aC,mem_of_getElem? -> aF,perm_append_comm -> aJ,getElem?_eq_some_iff -> aK,nodup_append -> aS,getElem?_append_left -> aT,map_append -> aW,mem_map -> aZ,getElem?_append_right -> bD,flatMap_cons -> bG,map_toArray -> bM,mem_map_of_mem -> bT,replicate -> bU,map_cons -> bY,append_assoc -> cZ,perm_middle -> dD,length_eq_zero_iff -> dG,mem_append -> dJ,drop_eq_nil_of_le -> dM,sublist_cons_self -> dN,mem_cons -> dW,length_append -> dX,getElem?_drop -> eF,getElem?_set -> eG,getElem?_map -> eH,not_mem_nil -> eX,length_take -> eY,take_left -> fC,drop_drop -> fD
open Nat renaming blt -> aH,le_of_mul_le_mul_right -> bZ,lt_or_ge -> dA,min_eq_left -> dH,add_assoc -> fG
open Go.Oper renaming upon -> aI,wp -> aU
open Go.Sx.World renaming block -> aN
open Go.Instr renaming checkKey -> aO,findKey -> aQ,sameBits -> aV,findNow -> bJ,sameNow -> bK,sliceBounds -> cO,findAsking -> dF,mapUpdate -> dI,sliceAt -> dV,keyThatStays -> dY,lookup -> dZ,slice -> eP
open Bool renaming false_eq_true -> aP
open Go.Fence renaming wide -> aX
open Go.Value renaming oneCell' -> aY,func -> fA
open Go.Deferred renaming ofValue -> bC
open Option renaming isSome_iff_exists -> bF,map_eq_some_iff -> bH
open Go.Proofs renaming bytesLess_eq -> bI
open Go.Op renaming equalIn -> bP,stringOp -> eU
open Go.Addr renaming add_lit -> bQ
open Array renaming ext_getElem? -> bV,getElem?_eq_none -> dK,getElem?_modify -> dS
open Go.Question renaming appendCap -> bW
open Go.Sx.St renaming start -> dB
open Go.Utf8 renaming decode -> dL
open Go.Sx.Le renaming refl -> dP
open Go.Sx.AU renaming z -> dU
open Go.Sx.Cj renaming persist -> fB
open Prod.mk renaming injEq -> fE
open Go.World renaming frozen? -> fF
open Go.Extern.AbiNoEscape renaming same -> fH
open Go.IntKind renaming i32 -> fJ
namespace Go.Sx
open Go Go.RowKit
theorem St.below{w w' I}(W:Ready I [] w)(h:Below w.heap.size w w'):St w [] I I [] w':=by
 have Z:∀{b:Nat} {o':Obj},w.heap[b]?=some o'→b<w.heap.size:=fun {b o'} N=>by
  rcases dA b w.heap.size with O|O
  ·exact O
  simp[dK O]at N
 exact⟨h.os,h.tape,h.output,h.size,fun b N _=>h.block b N,fun b o N=>by rw[h.block b (Z (W.1 b o N))];exact W.1 b o N,sI,sI,sI,sI,fun _ _=>rfl,dP _,a4V⟩
theorem Pure.of_below{P f args I v}(O:Enters P f)(h:∀w,Ready I [] w→Calls P f args.toArray w fun e w'=>e= .returned v∧Below w.heap.size w w'):Pure P f args I v:=
 ⟨O,fun w N=>(h w N).mono fun _ _ ⟨h1,h2⟩=>⟨I,[],St.below N h2,h1,rfl,rfl⟩⟩
theorem Pure.of_same{P f args I v}(N:Enters P f)(h:∀w,Ready I [] w→Calls P f args.toArray w fun e w'=>e= .returned v∧w'=w):Pure P f args I v:=
 Pure.of_below N fun w O=>(h w O).mono fun _ _ ⟨h1,h2⟩=>⟨h1,h2▸Below.refl _ _⟩
theorem Enters.of{P f fn}(h:P.funcs[f]?=some fn)(h1:fn.name≠ "runtime.NumGoroutine")(h2:fn.body.isNone=false):Enters P f:=⟨fn,h,h1,h2⟩
section
variable {cx:Cx} {Q:Qt} {e:Env} {I:Heap} {H:HL} {o:Oper} {C:Ct} {S:World→Prop}
theorem Cj.scope{c}(h:Cj cx (Exit.noGoto Q) c e I H)(N:cx.rd=none:=by rfl):Cj cx Q (.scope c) e I H:=Cj.of_wp N fun _ _ O W=>wp_scope_straight (h.wp N O W)
theorem Ej.c2p(h:Ej cx Q .ret e I H):Ej cx (Exit.noGoto Q) .ret e I H:=h
theorem a2r{T d x s}(W:o.op= .range T x)(Z:o.dst=some d)(hn:aH d cx.n=true)(hx:ev e x=some (.string s))(hu:cx.P.underlying T=some .string)
 (k:∀b,cx.w0.heap.size≤b→C ((d,ptr b 0)::e) I ((b,.stringIter s 0)::H)):DJ cx Q o e I H C:=by
 intro K hK a w N O;unfold aU;have:(execOp a.eval o).run cx.P w= .ok (.value (ptr w.heap.size 0)) { w with heap:=w.heap.push (.stringIter s 0) }:=by
  simp only[execOp,W,N.eval hx,aB,run_range_string w T s hu,aA,aG];rfl
 rw[this];simp only[aI,Z];exact hK _ _ _ (k _ O.size) _ _ (N.put hn) (O.alloc _)
theorem a3R{d b pos x s H'} i (ho:o.op= .next x true)(hd:o.dst=some d)(hn:aH d cx.n=true)(hx:ev e x=some (ptr b 0))(N:H[i]?=some (b,.stringIter s pos))(hp:pos<s.size)
 (O:AU H i (b,.stringIter s (pos+(dL s pos).2)) H')(k:C ((d,.tuple #[.bool true,.int .i64 pos,.int .i32 (dL s pos).1])::e) I H'):DJ cx Q o e I H C:=by
 intro K hK a w W Z;unfold aU;have hb:=Z.own _ (aF N);have:(execOp a.eval o).run cx.P w= .ok (.value (.tuple #[.bool true,.int .i64 pos,.int .i32 (dL s pos).1])) (aN w b (.stringIter s (pos+(dL s pos).2))):=by
  simp only[execOp,ho,W.eval hx,Instr.next,getObj,setObj,aB,dQ,hb,dR,hp,if_true];simp[goInt,aN]
 rw[this];simp only[aI,hd];exact hK _ _ _ k _ _ (W.put hn) (Z.block N O)
theorem YB{d b pos x s}(i:Nat)(W:o.op= .next x true)(Z:o.dst=some d)(hn:aH d cx.n=true)(hx:ev e x=some (ptr b 0))(hH:H[i]?=some (b,.stringIter s pos))(hp:¬pos<s.size)
 (k:C ((d,.tuple #[.bool false])::e) I H):DJ cx Q o e I H C:=by
 intro K hK a w N O;unfold aU;have hb:=O.own _ (aF hH);have:(execOp a.eval o).run cx.P w= .ok (.value (.tuple #[.bool false])) w:=by
  simp[execOp,W,N.eval hx,Instr.next,getObj,aB,dQ,hb,dR,hp]
 rw[this];simp only[aI,Z];exact hK _ _ _ k _ _ (N.put hn) O
theorem b5G{N T x k r}(O:o.op= .convert N T x)(W:ev e x=some (.int k r))(Z:cx.P.underlying N=some (.int k))(hT:cx.P.underlying T=some .string):BO cx o e S (str (Utf8.encode r).data.toList):=by
 intro a w ha _;simp[execOp,O,ha.eval W,convert,run_underlying Z,run_underlying hT,str,Conv.intToString]
end
end Go.Sx
namespace Go.Sx
open Go
theorem XJ{w:World}{b cs t fr}(h:w.heap[b]?=some (.cells cs t fr)):w.shape? b=some (t,cs.size):=by simp[World.shape?,h]
theorem yY.still{P f args I H}{N:Ending→HL→Prop}(h:yY P f args I H (fun e _ H'=>N e H')):yY P f args I H (fun e O H'=>I=O∧N e H'):=h.forget fun _ _ _ _ W=>⟨rfl,W⟩
theorem a2p n g:(gV n g).cells=[gV n g].toArray:=by cases g<;>rfl
theorem b0q n g:[gV n g].all aY=true:=by cases g<;>rfl
section
variable {cx:Cx} {Q:Qt} {e:Env} {I:Heap} {H:HL} {o:Oper} {C:Ct} {S:World→Prop}
theorem b5g{P w T N j} p (O:P.underlying T=some (.pointer N))(W:P.info? N=some j):(binOp .eql T (.pointer p) (.pointer none)).run P w= .ok (.bool p.isNone) w:=by
 have h:∀d:Nat,(bP (d+1) T (.pointer p) (.pointer none)).run P w= .ok p.isNone w:=fun d=>by
  cases p<;>simp[bP,run_underlying O,sizeOf,typeInfo,samePointer]
 simp only[binOp];simp[Op.equal,Op.maxDepth,h 9999]
theorem b8O{x y T U N} p (Z:o.op= .binOp .eql T x y U)(hx:ev e x=some (.pointer p))(hy:ev e y=some (.pointer none))(hT:cx.P.underlying T=some (.pointer N))(O:(cx.P.info? N).isSome=true):BO cx o e S (.bool p.isNone):=by
 intro a w W _;obtain⟨j,hj⟩:=bF.1 O;have hb:=b5g (P:=cx.P) (w:=w) p hT hj;have hg:eqGuard .eql T x y (.pointer p) (.pointer none)=pure ():=rfl;simp[execOp,Z,W.eval hx,W.eval hy,hb,hg]
theorem b5j{x y T U N b off}(Z:o.op= .binOp .neq T x y U)(hx:ev e x=some (ptr b off))(hy:ev e y=some (ptr b off))(hT:cx.P.underlying T=some (.pointer N))(O:(cx.P.info? N).isSome=true):BO cx o e S (.bool false):=by
 intro a w W _;obtain⟨j,hj⟩:=bF.1 O;have hb:=Lib.run_neq_ptr_same (P:=cx.P) w ⟨b,off,none⟩ hT hj;have hg:eqGuard .neq T x y (ptr b off) (ptr b off)=pure ():=rfl;simp[execOp,Z,W.eval hx,W.eval hy,hb,hg]
theorem b3b{x O T W b off} z {cs:List Value}{t fr}(ho:o.op= .convert O T x)(hx:ev e x=some (ptr b off))(hS:cx.P.underlying O=some (.pointer W))(hT:cx.P.underlying T=some .unsafePointer)(Z:(cx.P.info? W).map (·.size)=some (z+1))
 (hb:yZ S b (.cells cs.toArray t fr))(N:off<cs.length):BO cx o e S (ptr b off):=by
 intro a w ha hs;obtain⟨j,hj,hz⟩:=bH.1 Z;have hz:j.size≠0:=oM;have h:=Lib.run_to_unsafe (P:=cx.P) (w:=w) ⟨b,off,none⟩ hS hT hj hz (XJ (hb w hs)) (by simpa using N);simp[execOp,ho,ha.eval hx,h]
theorem a9u{x O T N b off}{cs:List Value}{t fr}(Z:o.op= .convert O T x)(hx:ev e x=some (ptr b off))(hS:cx.P.underlying O=some .unsafePointer)(hT:cx.P.underlying T=some (.pointer N))(W:(cx.P.info? N).isSome=true)
 (hb:yZ S b (.cells cs.toArray t fr))(hl:liesAt cx.P cx.P.depth t (cs.length / cx.P.cellsOf t) off N 1=true):BO cx o e S (ptr b off):=by
 intro a w ha hs;obtain⟨j,hj⟩:=bF.1 W;have h:=Lib.run_from_unsafe (P:=cx.P) (w:=w) ⟨b,off,none⟩ hS hT hj (XJ (hb w hs)) (by simpa using hl);simp[execOp,Z,ha.eval hx,h]
theorem b2R{f fn N x ts v}(W:o.op= .call ⟨.value N,#[x],ts⟩)(Z:ev e N=some (.func (.func f) #[] #[]))(hx:ev e x=some v)(h1:cx.P.funcs[f]?=some fn)(h2:(fn.name == "runtime.NumGoroutine")=false)(h3:fn.body.isNone=true)
 (h4:Extern.findNext fn=none)(h5:Extern.find fn=some fH):BO cx o e S v:=by
 intro a w O _;have h:=run_callFunc_extern h1 h2 h3 h4 h5 #[v] w;simp[execOp,W,resolve,invoke,O.eval Z,O.eval hx,h,bC,Lib.run_noEscape,dR]
theorem b0p{x T b off n c}(N:o.op= .call ⟨.builtin .unsafeSliceData,#[x],#[T]⟩)(O:ev e x=some (.slice (some ⟨b,off,none⟩) n c))(W:c≠0):BO cx o e S (ptr b off):=by
 intro a w Z _;have h:=fun ty=>Lib.run_unsafeSliceData_row (P:=cx.P) (w:=w) #[T] ty ⟨b,off,none⟩ n c W;simp[execOp,N,resolve,invoke,Z.eval O,builtin,h]
theorem a5U{x T n c}(N:o.op= .call ⟨.builtin .unsafeSliceData,#[x],#[T]⟩)(O:ev e x=some (.slice none n c)):BO cx o e S (.pointer none):=by
 intro a w W _;have h:=fun Z=>Lib.run_unsafeSliceData_nil (P:=cx.P) (w:=w) #[T] Z n c;simp[execOp,N,resolve,invoke,W.eval O,builtin,h]
theorem a2z{x y p T U}(O:o.op= .call ⟨.builtin .unsafeString,#[x,y],#[T,U]⟩)(W:ev e x=some (.pointer p))(Z:ev e y=some (i64 0)):BO cx o e S (str []):=by
 intro a w N _;have h:=fun ty=>Lib.run_unsafeString_none (P:=cx.P) (w:=w) T U ty p;simp[execOp,O,resolve,invoke,N.eval W,N.eval Z,builtin,h];rfl
theorem a5P{x y T U E d b} i l {cs H'}(ho:o.op= .call ⟨.builtin .unsafeString,#[x,y],#[T,U]⟩)(hd:o.dst=some d)(hn:aH d cx.n=true)(hx:ev e x=some (ptr b 0))(hy:ev e y=some (i64 l.length))
 (hT:cx.P.underlying T=some (.pointer E))(hE:cx.P.cellsOf E=1)(N:H[i]?=some (b,yX E (EF l++cs)))(h0:l≠[])(a0:l.length≤9223372036854775807)(a1:AU H i (b,.cells (EF l++cs).toArray E (0,l.length)) H')(k:C ((d,str l)::e) I H'):DJ cx Q o e I H C:=by
 intro K hK a w O W;unfold aU;have Z:=W.own _ (aF N);have h:=fun ty=>Lib.run_unsafeString_row (P:=cx.P) (w:=w) T U ty E hT hE b (EF l++cs).length (by rw[XJ Z];simp) l h0 (by rw[dX,QD];omega) a0 (fun j x hj=>by
  rw[bQ];refine cell_of_heap Z ?_;rw[aT (by rw[QD,Nat.zero_add];exact(aK.1 hj).1)];simp[EF,hj])
 have a2:w.freeze ⟨b,0,none⟩ l.length=aN w b (.cells (EF l++cs).toArray E (0,l.length)):=by
  have hl:l.length≠0:=by simpa using h0
  unfold World.freeze aN;rw[zD hl]
  congr 1
  apply bV
  intro k;rw[dS,Array.getElem?_setIfInBounds]
  by_cases hk:b=k
  ·subst hk;have a3:b<w.heap.size:=W.lt (aF N);rw[zF rfl,zF rfl,zF a3,show w.heap[b]?=_ from Z];simp[yX]
  simp[hk]
 have:(execOp a.eval o).run cx.P w= .ok (.value (str l)) (aN w b (.cells (EF l++cs).toArray E (0,l.length))):=by
  simp[execOp,ho,resolve,invoke,O.eval hx,O.eval hy,builtin,h,a2,str]
 rw[this];simp only[aI,hd];exact hK _ _ _ k _ _ (O.put hn) (W.block N a1)
end
section
variable {cx:Cx} {Q:Qt} {e:Env} {I:Heap} {H:HL} {o:Oper} {C:Ct}
end
theorem run_checkKey{P K}(N:P.underlying K=some .string) b v w:(aO b 10000 K (str v)).run P w= .ok () w:=by
 have h:∀n,(aO b (n+1) K (str v)).run P w= .ok () w:=fun n=>by simp[aO,run_underlying N,str]
 exact h 9999
section
variable {cx:Cx} {Q:Qt} {e:Env} {I:Heap} {H:HL} {o:Oper} {C:Ct} {S:World→Prop}
theorem BH{T d}(O:o.op= .makeMap T none)(W:o.dst=some d)(Z:aH d cx.n=true)(k:∀b,cx.w0.heap.size≤b→C ((d,.map (some b))::e) I ((b,.map #[] 0)::H)):DJ cx Q o e I H C:=by
 intro K hK a w ha N;unfold aU;have:(execOp a.eval o).run cx.P w= .ok (.value (.map (some w.heap.size))) { w with heap:=w.heap.push (.map #[] 0) }:=by
  simp[execOp,O,Instr.makeMap,newObj,dQ]
 rw[this];simp only[aI,W];exact hK _ _ _ (k _ N.size) _ _ (ha.put Z) (N.alloc _)
end
def a1P (P:Program) (f:FuncId) (args:List Value) (u:FrameMode) (I:Heap) (H:HL) (post:FrameMode→Heap→HL→Prop):Prop:=
 Enters P f∧∀w,Ready I H w→CallsD P f args.toArray u w fun e u' w'=>(∃v,e= .returned v)∧∃I' H',St w (H.map (·.1)) I I' H' w'∧post u' I' H'
theorem yY.b9R{P f fn c args I H}{N:Ending→Heap→HL→Prop}(Z:P.funcs[f]?=some fn)(hb:fn.body=some c)(W:fn.name≠ "runtime.NumGoroutine")
 (hn:args.length≤fn.ntmps)
 (h:∀w0,Ready I H w0→Cj ⟨P,fn.ntmps,w0,H.map (·.1),I,[],none⟩ (bodyPostD P fn (RR w0 (H.map (·.1)) I N)) c (NR 0 args) I H):yY P f args I H N:=by
 refine⟨⟨fn,Z,W,by simp[hb]⟩,fun w O=>?_⟩;refine calls_of_wp_defers Z hb ?_;exact(h w O).wp rfl (Has.start args fn.ntmps hn) (dB w I H O.1 O.2.1 O.2.2.1 O.2.2.2)
section
variable {cx:Cx} {Q:Qt} {e:Env} {I:Heap} {H:HL} {o:Oper} {C:Ct}
theorem J.defer{O:Array Oper}{l:List Oper}{f:Nat}{W:Operand}{xs:List Operand}{ts:Array TypeId}{fst cap vs:List Value}(hg:o.guard=none)(ho:o.op= .defer ⟨.value W,xs.toArray,ts⟩)(hd:o.dst=none)
 (hf:ev e W=some (.func (.func f) fst.toArray cap.toArray))(hx:evs e xs=some vs)
 (k:J { cx with ds:=⟨.fn (.func f) cap.toArray,(fst++vs).toArray⟩::cx.ds } Q O l e I H)(Z:cx.rd=none:=by rfl):J cx Q O (o::l) e I H:=by
 intro a w N hs;refine wpListIn_plain hg fun K hK=>a4W (.inl Z) ?_;unfold aU;have hr:(execOp a.eval o).run cx.P w= .ok (.defer ⟨.fn (.func f) cap.toArray,(fst++vs).toArray⟩) w:=by
  have a0:xs.toArray.map a.eval=vs.toArray:=by rw[bM,N.WI hx]
  simp[execOp,ho,resolve,a0,N.eval hf,bC]
 rw[hr];simp only[aI,hd];exact hK _ _ (k _ _ ⟨N.size,by simp[Act.put,N.defs],fun t v h=>N.get t v h⟩ hs)
def b5K (cx:Cx) (fn:Func) (post:Ending→Heap→HL→Prop) (e:Env) (I:Heap) (H:HL):Prop:=
 ∀a w,Has a cx.n e cx.ds→St cx.w0 cx.D cx.I0 I H w→∃v,(results fn a.tmps).run cx.P w= .ok v w∧RR cx.w0 cx.D cx.I0 post (.returned v) w
theorem a6j{P fn tmps}{R:Ending→World→Prop}{f cap vs u w w0 D I0 H1 R1}{W:FrameMode→Heap→HL→Prop}(hu:u≠ .run)
 (hs:a1P P f (vs++cap) u I H1 W)(N:St w0 D I0 I (H1++R1) w){ds}
 (k:∀u' Z O w',Le I Z→W u' Z O→St w0 D I0 Z (O++R1) w'→Leaves P fn tmps R ds (settle u') w'):
 Leaves P fn tmps R (⟨.fn (.func f) cap.toArray,vs.toArray⟩::ds) u w:=by
 refine leaves_cons (f:=f) (args:=(vs++cap).toArray) hu (by have h:=OX hs.1 (vs++cap).toArray w;simpa[invoke]using h) ?_;have a0:Ready I H1 w:=⟨N.sub,fun p hp=>N.own p (aC _ hp),by
  have:=N.nodup;rw[aW,aS]at this;exact this.1,fun p hp=>N.dis p (aC _ hp)⟩
 refine(hs.2 w a0).mono ?_;rintro _ u' w' ⟨⟨v,rfl⟩,Z,O,a1,hp⟩;exact k u' Z O w' a1.le hp (N.call a1)
end
def Rj (cx:Cx) (Q:Qt) (c:Code) (n:Nat) (e:Env) (I:Heap) (H:HL):Prop:=∀a w,Has a cx.n e cx.ds→St cx.w0 cx.D cx.I0 I H w→Code.rounds cx.P c Q n a w
section
variable {cx:Cx} {Q:Qt} {e:Env} {I:Heap} {H:HL} {o:Oper} {C:Ct} {S:World→Prop}
theorem Cj.rounds n {c}(h:Rj cx Q c n e I H)(N:cx.rd=none:=by rfl):Cj cx Q (.loop c) e I H:=Cj.of_wp N fun a w O W=>wp_loop_rounds n (h a w O W)
theorem Rj.succ{c n}(h:Cj cx (Exit.then (Code.rounds cx.P c Q n) Q) c e I H)(N:cx.rd=none:=by rfl):Rj cx Q c (n+1) e I H:=fun _ _ O W=>h.wp N O W
theorem Ej.rounds{c n}(h:Rj cx Q c n e I H):Ej cx (Exit.then (Code.rounds cx.P c Q n) Q) .normal e I H:=fun a w N O=>h a w N O
theorem EU{x y T E b off n sz off' k i}(Z:o.op= .indexAddr T x y)(hx:ev e x=some (ptr b off))(hy:ev e y=some (.int k i))
 (hu:cx.P.underlying T=some (.array n E))(O:∀w,(sizeOf E).run cx.P w= .ok sz w)(h0:0≤i)(h1:i<n)(N:off+i.toNat*sz=off'):BO cx o e S (ptr b off'):=by
 intro a w W _;subst N;simp[execOp,Z,W.eval hx,W.eval hy,Instr.indexAt,Instr.sureAddr,asIntOf,run_underlying hu,h0,h1,O,bQ]
theorem a2Q{P w T E n c} p (N:P.underlying T=some (.slice E)):(binOp .neq T (.slice p n c) (.slice none 0 0)).run P w= .ok (.bool p.isSome) w∧(binOp .eql T (.slice p n c) (.slice none 0 0)).run P w= .ok (.bool p.isNone) w:=by
 have h1:∀d:Nat,(bP (d+1) T (.slice p n c) (.slice none 0 0)).run P w= .ok p.isNone w:=fun d=>by cases p<;>simp[bP,run_underlying N]
 simp only[binOp];cases p<;>simp[Op.equal,Op.maxDepth,h1 9999]
theorem b2V{x y T U E n c} p (O:o.op= .binOp .neq T x y U)(W:ev e x=some (.slice p n c))(Z:ev e y=some (.slice none 0 0))(hT:cx.P.underlying T=some (.slice E)):BO cx o e S (.bool p.isSome):=by
 intro a w N _;have hb:=(a2Q (P:=cx.P) (w:=w) (n:=n) (c:=c) p hT).1;have hg:eqGuard .neq T x y (.slice p n c) (.slice none 0 0)=pure ():=rfl;simp[execOp,O,N.eval W,N.eval Z,hb,hg]
theorem b2J{x y T U E n c} p (O:o.op= .binOp .eql T x y U)(W:ev e x=some (.slice p n c))(Z:ev e y=some (.slice none 0 0))(hT:cx.P.underlying T=some (.slice E)):BO cx o e S (.bool p.isNone):=by
 intro a w N _;have hb:=(a2Q (P:=cx.P) (w:=w) (n:=n) (c:=c) p hT).2;have hg:eqGuard .eql T x y (.slice p n c) (.slice none 0 0)=pure ():=rfl;simp[execOp,O,N.eval W,N.eval Z,hb,hg]
theorem made1 z c:madeCells #[z] c=(bU c z).toArray:=by
 apply bV
 intro i;unfold madeCells
 by_cases h:i<c
 ·simp[h,Nat.mod_one]
 simp[h]
theorem ZC{T E d by1 n c:Nat}{x y kl W z}(ho:o.op= .makeSlice T x y)(hd:o.dst=some d)(hn:aH d cx.n=true)(hx:ev e x=some (.int kl (n:Int)))(hy:ev e y=some (.int W (c:Int)))
 (hu:cx.P.underlying T=some (.slice E))(Z:(cx.P.info? E).map (fun i=>(i.bytes,i.size,i.zero))=some (by1,1,some z))(a0:z.cells= #[z])(a2:n≤c)(hb:by1*c≤281474976710656)(a3:c≤9223372036854775807)
 (k:∀b,cx.w0.heap.size≤b→C ((d,.slice (some ⟨b,0,none⟩) n c)::e) I ((b,yX E (bU c z))::H)):DJ cx Q o e I H C:=by
 intro K hK a w O hs;unfold aU;obtain⟨i,hi,N⟩:=bH.1 Z;simp only[fE]at N;obtain⟨h1,h2,h3⟩:=N;have a1:(i.bytes:Int)*(c:Int)≤281474976710656:=by
  have h:((by1*c:Nat):Int)≤281474976710656:=oM;rw[h1]
  rwa [Int.natCast_mul]at h
 have hr:=run_make (P:=cx.P) w T E i z hu hi h3 kl W n c oM oM a1 oM;have:(execOp a.eval o).run cx.P w= .ok (.value (.slice (some ⟨w.heap.size,0,none⟩) n c)) (w.alloc (yX E (bU c z))):=by
  simp[execOp,ho,O.eval hx,O.eval hy,hr,h2,a0,made1,yX]
 rw[this];simp only[aI,hd];exact hK _ _ _ (k _ hs.size) _ _ (O.put hn) (hs.alloc _)
theorem b1X{x y}{T E b off n c sz j:Nat}{kl}(Z:o.op= .slice T x (some y) none none)(hx:ev e x=some (.slice (some ⟨b,off,none⟩) n c))(hy:ev e y=some (.int kl (j:Int)))(hu:cx.P.underlying T=some (.slice E))(N:∀w,(sizeOf E).run cx.P w= .ok sz w)(hj:j≤n)(hc:j<c):
 BO cx o e S (.slice (some ⟨b,off+j*sz,none⟩) (n-j) (c-j)):=by
 intro a w O _;have W:¬c=j:=oM;have h1:(j:Int)≤n:=oM;simp[execOp,Z,O.eval hx,O.eval hy,dV,eP,run_underlying hu,cO,run_sliceBound,h1,N,W,bQ]
theorem c3w{x y T U E d b off n c m yv} i {cs N ys H'}(ho:o.op= .call ⟨.builtin .copy,#[x,y],#[T,U]⟩)(hd:o.dst=some d)(hn:aH d cx.n=true)(hx:ev e x=some (.slice (some ⟨b,off,none⟩) n c))(hy:ev e y=some yv)
 (Z:cx.P.underlying T=some (.slice E))(a1:∀w,(sizeOf E).run cx.P w= .ok 1 w)(a2:Src cx.P I H 1 m yv ys)(a3:m≤n)(hH:H[i]?=some (b,yX E cs))(W:AL cs off ys N)(a4:AU H i (b,yX E N) H')
 (k:C ((d,i64 m)::e) I H'):DJ cx Q o e I H C:=by
 intro K hK a w ha O;unfold aU;obtain⟨_,a5,a6,a7⟩:=a2;have hb:=O.own _ (aF hH);have a8:=KJ (P:=cx.P) (t:=E) ys 0 w cs hb (.inl rfl) W.1 (fun u Z=>(List.all_eq_true.1 a5) u Z) N W;have a0:Nat.min m n=m:=dH a3;have:(execOp a.eval o).run cx.P w= .ok (.value (i64 m)) (aN w b (yX E N)):=by
  simp[execOp,ho,resolve,invoke,builtin,ha.eval hx,ha.eval hy,Builtin.copy_,run_underlying Z,a6 w O.ss,a0,a1,a7 w O.ss,a8,goInt,yX]
 rw[this];simp only[aI,hd];exact hK _ _ _ k _ _ (ha.put hn) (O.block hH a4)
theorem b7y{H1 R d f T te fo nm xs ts vs q}{W:Ending→Heap→HL→Prop}
 (ho:o.op= .call ⟨.invoke fo nm,xs.toArray,ts⟩)(hd:o.dst=some d)(hn:aH d cx.n=true)(hf:ev e fo=some (.iface T (.pointer q)))(hx:evs e xs=some vs)
 (hm:((cx.P.info? T).bind fun i=>i.methods.find? (·.name == nm)).map (fun m=>(m.path.isEmpty,m.func))=some (true,some (f,true)))(hu:cx.P.underlying T=some (.pointer te))
 (hs:yY cx.P f (.pointer q::vs) I H1 W)
 (k:∀v O N,Le I O→W (.returned v) O N→C ((d,v)::e) O (N++R))
 (kp:∀ch O N,Le I O→W (.panicked ch) O N→Ej cx Q (.panic ch) e O (N++R))
 (ko:∀O N,¬W .outgrown O N):DJ cx Q o e I (H1++R) C:=by
 intro K hK a w ha a0;unfold aU;have hr:(execOp a.eval o).run cx.P w= .ok (.enter f (.pointer q::vs).toArray) w:=by
  have a8:xs.toArray.map a.eval=vs.toArray:=by rw[bM,ha.WI hx]
  obtain⟨m,a9,a5⟩:=bH.1 hm;obtain⟨i,hi,aa⟩:=Option.bind_eq_some_iff.1 a9;simp only[fE]at a5;obtain⟨Z,ab⟩:=a5;have ac:m.path.toList=[]:=by
   have:m.path= #[]:=by simpa using Z
   rw[this]
  have a3:=OX hs.1 (.pointer q::vs).toArray w;have a4:∀n:Nat,(method (n+1) T (.pointer q) nm).run cx.P w= .ok (f,.pointer q) w:=fun n=>by
   simp[method,typeInfo,hi,aa,ac,follow,ab,receiverAt,run_underlying hu,Place.get]
  have ad:∀n:Nat,(method (n+Made.depth) T (.pointer q) nm).run cx.P w= .ok (f,.pointer q) w:=fun n=>a4 (n+(Made.depth-1));simp only[execOp,ho,resolve,a8,ha.eval hf,invoke,aB,aG,aA,callMethod];simp[ad,a3]
 rw[hr];simp only[aI];have a1:Ready I H1 w:=⟨a0.sub,fun p Z=>a0.own p (aC _ Z),by
  have:=a0.nodup;rw[aW,aS]at this;exact this.1,fun p Z=>a0.dis p (aC _ Z)⟩
 refine(hs.2 w a1).mono ?_;rintro en w' ⟨O,N,a6,Z⟩;have a7:=a6.le;have a2:=a0.call a6;cases en with
 |returned v=>
  rw[hd];exact hK _ _ _ (k v O N a7 Z) _ _ (ha.put hn) a2
 |panicked ch=>exact kp ch O N a7 Z _ _ ha a2
 |outgrown=>exact(ko _ _ Z).elim
end
theorem St.set1{w I b T off cs v}(N:Ready I [(b,yX T cs)] w):St w [b] I I [(b,yX T (cs.set off v))] (w.setCell ⟨b,off,none⟩ v):=by
 have W:w.heap[b]?=some (yX T cs):=N.2.1 (b,yX T cs) (.head _);have O:St w [b] I I [(b,yX T cs)] w:=dB w I [(b,yX T cs)] N.1 N.2.1 N.2.2.1 N.2.2.2;rw[a2x (fr:=(0,0)) W];exact O.block (i:=0) rfl dU
theorem yY.a6F{P f args I b T off cs x y v}(O:Enters P f)(W:cs[off]?=some x)
 (h:∀w,w.cell? ⟨b,off,none⟩=some x→w.frozen? ⟨b,off,none⟩=false→Calls P f args.toArray w fun e w'=>e= .returned v∧w'=w.setCell ⟨b,off,none⟩ y):
 yY P f args I [(b,yX T cs)] (fun e Z H'=>e= .returned v∧H'=[(b,yX T (cs.set off y))]):=
 ⟨O,fun w N=>(h w (cell_of_heap (N.2.1 _ (.head _)) W) (by have:=N.2.1 _ (.head _);simp only at this;simp[fF,this,yX])).mono fun e w' ⟨h1,h2⟩=>⟨I,_,h2▸St.set1 N,h1,rfl⟩⟩
theorem yY.c3A{P f args I b T off cs x v}(O:Enters P f)(W:cs[off]?=some x)
 (h:∀w,w.cell? ⟨b,off,none⟩=some x→Calls P f args.toArray w fun e w'=>e= .returned v∧w'=w):
 yY P f args I [(b,yX T cs)] (fun e Z H'=>e= .returned v∧H'=[(b,yX T cs)]):=
 ⟨O,fun w N=>(h w (cell_of_heap (N.2.1 _ (.head _)) W)).mono fun _ _ ⟨h1,h2⟩=>⟨I,_,h2▸dB w I _ N.1 N.2.1 N.2.2.1 N.2.2.2,h1,rfl⟩⟩
theorem a1P.a6F{P f args u I b T off cs x y v}(Z:Enters P f)(hx:cs[off]?=some x)
 (h:∀w,w.cell? ⟨b,off,none⟩=some x→w.frozen? ⟨b,off,none⟩=false→CallsD P f args.toArray u w fun e N w'=>N=u∧(e= .returned v∧(w'=w.setCell ⟨b,off,none⟩ y∨w'=w.drew.setCell ⟨b,off,none⟩ y))):
 a1P P f args u I [(b,yX T cs)] (fun N a0 H'=>N=u∧H'=[(b,yX T (cs.set off y))]):=
 ⟨Z,fun w O=>(h w (cell_of_heap (O.2.1 _ (.head _)) hx) (by have:=O.2.1 _ (.head _);simp only at this;simp[fF,this,yX])).mono fun e N w' ⟨h0,h1,h2⟩=>⟨⟨v,h1⟩,I,_,by
  have W:=St.set1 (off:=off) (v:=y) O;rcases h2 with h2|h2
  ·rw[h2];exact W
  rw[h2];exact W.drew,h0,rfl⟩⟩
def tab (f:Nat→Value) (tr:Value):List Value:=(List.range 256).map f++[tr]
theorem GV f tr:(tab f tr).length=257:=by simp[tab]
theorem LY f tr {i}(h:i<256):(tab f tr)[i]?=some (f i):=by
 unfold tab;rw[aT (by simpa using h)];simp[h]
theorem a1k f tr:(tab f tr)[256]?=some tr:=by
 unfold tab;rw[bD sI];simp
theorem c4n f tr v {i}(h:i<256):(tab f tr).set i v=tab (fun j=>if j=i then v else f j) tr:=by
 apply List.ext_getElem?
 intro j;rw[eG];rcases dA j 256 with O|O
 ·rw[LY _ _ O,LY _ _ O]
  by_cases N:i=j
  ·subst N;simp[GV];omega
  have:¬j=i:=fun W=>N W.symm;simp[N,this]
 have N:¬i=j:=oM;simp only[N,if_false];unfold tab;rw[bD (by simpa using O),bD (by simpa using O)];simp
theorem b7F f tr v:(tab f tr).set 256 v=tab f v:=by
 unfold tab;rw[List.set_append_right _ _ sI];simp
theorem b3E{f tr}(N:∀i,(f i).oneCell'=true)(O:tr.oneCell'=true):(tab f tr).all aY=true:=by
 unfold tab;simp[N,O]
theorem b4b f a v:AL (tab f a) 256 [v] (tab f v):=by
 refine⟨by simp[GV],?_⟩;unfold tab;rw[List.take_append_of_le_length sI,List.take_of_length_le sI,dM sI];simp
theorem AL.all{l xs:List Value}(h:l.length=xs.length):AL l 0 xs xs:=⟨by simp[h],by simp[←h]⟩
theorem a0d n g:(gV n g).cells= #[gV n g]:=by cases g<;>rfl
theorem a4h n g:(gV n g).oneCell'=true:=by cases g<;>rfl
def a3Y (I:Heap) (l:List UInt8) (v:Value):Prop:=∃b c sp fr,v= .slice (some ⟨b,0,none⟩) l.length c∧I b=some (.cells (EF l++sp).toArray 5 fr)
theorem a3Y.mono{I N l v}(h:a3Y I l v)(O:Le I N):a3Y N l v:=let ⟨b,c,sp,fr,h1,h2⟩:=h;⟨b,c,sp,fr,h1,O _ _ h2⟩
section
variable {cx:Cx} {Q:Qt} {e:Env} {I:Heap} {H:HL}
theorem Ej.c5q{fn}{N:Ending→Heap→HL→Prop}{H1 H2 H3 R1 f1 f2 W a0 Z a1}(a3:cx.ds=[⟨.fn (.func f1) W.toArray,a0.toArray⟩,⟨.fn (.func f2) Z.toArray,a1.toArray⟩])
 (h1:a1P cx.P f1 (a0++W) .returning I H1 fun u' a9 H'=>u'= .returning∧H'=H2)(h2:∀O,a1P cx.P f2 (a1++Z) .returning O H2 fun u' a8 H'=>u'= .returning∧H'=H3)
 (k:∀O,Le I O→b5K cx fn N e O (H3++R1)):Ej cx (bodyPostD cx.P fn (RR cx.w0 cx.D cx.I0 N)) .normal e I (H1++R1):=by
 intro a w ha a4;show Leaves cx.P fn a.tmps (RR cx.w0 cx.D cx.I0 N) a.defers .returning w;rw[ha.defs,a3];refine a6j sI h1 a4 ?_;rintro u' O _ w' a5 ⟨rfl,rfl⟩ a6;refine a6j (by simp[]) (h2 O) a6 ?_;rintro _ I2 _ w2 a2 ⟨rfl,rfl⟩ a7;exact k I2 (a5.trans a2) a w2 ha a7
theorem b5K.none{fn}{N:Ending→Heap→HL→Prop}(O:fn.results= #[])(W:N (.returned (.tuple #[])) I H):b5K cx fn N e I H:=
 fun _ _ _ Z=>⟨.tuple #[],results_none O _ _ _,I,H,Z,W⟩
end
def YC (P:Program) (l:Nat) (args:List Value) (I:Heap) (H:HL) (post:Ending→Heap→HL→Prop):Prop:=
 ∀w,Ready I H w→∃f tmps assign body,(Instr.yield l args.toArray).run P w= .ok (.round l f tmps assign body) w∧RoundIn aX 0 P l f tmps assign body w (RR w (H.map (·.1)) I post)
theorem b3r{rd n P l f tmps assign body w}{R:Ending→World→Prop}(h:RoundIn aX n P l f tmps assign body w R):RoundIn { aX with round:=rd } n P l f tmps assign body w R:=by
 cases rd with
 |none=>exact h
 |some l=>exact h
section
variable {cx:Cx} {Q:Qt} {o:Oper} {e:Env} {I:Heap}
theorem a9N{H1 R d l fo xs ts vs}{W:Ending→Heap→HL→Prop}{K:Act→World→Prop}
 (ho:o.op= .call ⟨.value fo,xs.toArray,ts⟩)(hd:o.dst=some d)(hn:aH d cx.n=true)(hf:ev e fo=some (.func (.yield l) #[] #[]))(hx:evs e xs=some vs)(hs:YC cx.P l vs I H1 W)
 (k:∀v Z N,Le I Z→W (.returned v) Z N→∀a w,Has a cx.n ((d,v)::e) cx.ds→St cx.w0 cx.D cx.I0 Z (R++N) w→K a w)
 (kp:∀ch Z N,¬W (.panicked ch) Z N)(ko:∀Z N,¬W .outgrown Z N){a w}(ha:Has a cx.n e cx.ds)(O:St cx.w0 cx.D cx.I0 I (R++H1) w):o.wpIn cx.F 0 cx.P a w K Q:=by
 replace O:=O.perm (H':=H1++R) aJ;have a0:Ready I H1 w:=⟨O.sub,fun p hp=>O.own p (aC _ hp),by
  have:=O.nodup;rw[aW,aS]at this;exact this.1,fun p hp=>O.dis p (aC _ hp)⟩
 obtain⟨f,tmps,assign,body,h1,h2⟩:=hs w a0;have hr:(execOp a.eval o).run cx.P w= .ok (.round l f tmps assign body) w:=by
  have a3:xs.toArray.map a.eval=vs.toArray:=by
   rw[bM,ha.WI hx]
  simp only[execOp,ho,resolve,a3,ha.eval hf,bC,invoke,aB,aG,aA,Array.empty_append,h1]
 refine⟨fun _ _=>trivial,?_⟩;have he:o.semAt cx.F.round a.eval=execOp a.eval o:=Oper.semAt_eq _ _ _ (fun c hc=>by rw[ho]at hc;cases hc);rw[he,hr];refine⟨fun h=>by simp[Cx.F,aX]at h,?_⟩;refine RoundIn.mono (b3r (rd:=cx.rd) h2) ?_;rintro en w' ⟨Z,N,a1,hp⟩;have a4:=a1.le;have a2:=(O.call a1).perm (H':=R++N) aJ;cases en with
 |returned v=>
  rw[hd];exact k v Z N a4 hp _ _ (ha.put hn) a2
 |panicked ch=>exact(kp _ _ _ hp).elim
 |outgrown=>exact(ko _ _ hp).elim
theorem J.yield{a0:Array Oper}{r:List Oper}{H1:HL}(R:HL){d l:Nat}{fo:Operand}{xs:List Operand}{ts:Array TypeId}{vs:List Value}{O:Ending→Heap→HL→Prop}
 (hg:o.guard=none)(ho:o.op= .call ⟨.value fo,xs.toArray,ts⟩)(hd:o.dst=some d)(hn:aH d cx.n=true)(hf:ev e fo=some (.func (.yield l) #[] #[]))(hx:evs e xs=some vs)(hs:YC cx.P l vs I H1 O)
 (k:∀v W N,Le I W→O (.returned v) W N→J cx Q a0 r ((d,v)::e) W (R++N))
 (kp:∀ch W N,¬O (.panicked ch) W N)(ko:∀W N,¬O .outgrown W N):J cx Q a0 (o::r) e I (R++H1):=
 fun _ _ ha Z=>wpListIn_plain hg fun _ hK=>a9N ho hd hn hf hx hs (fun v W N a1 hp a w ha Z=>hK a w (k v W N a1 hp a w ha Z)) kp ko ha Z
theorem J.c4V{Z:Array Oper}{r:List Oper}{H1:HL}(R:HL){d l:Nat}{fo:Operand}{xs:List Operand}{ts:Array TypeId}{vs:List Value}{O:Ending→Heap→HL→Prop}(j dj:Nat)(a0 b:Bool)
 (hg:o.guard=some (j,a0))(a2:(Z[j]?).bind (·.dst)=some dj)(hv:eg e dj=some (.bool b))(hb:b=a0)(ho:o.op= .call ⟨.value fo,xs.toArray,ts⟩)(hd:o.dst=some d)(hn:aH d cx.n=true)(hf:ev e fo=some (.func (.yield l) #[] #[]))(hx:evs e xs=some vs)(hs:YC cx.P l vs I H1 O)
 (k:∀v W N,Le I W→O (.returned v) W N→J cx Q Z r ((d,v)::e) W (R++N))
 (kp:∀ch W N,¬O (.panicked ch) W N)(ko:∀W N,¬O .outgrown W N):J cx Q Z (o::r) e I (R++H1):=by
 intro a w ha a1;refine wpListIn_step fun K hK=>?_;rw[zF (by simp[Region.wanted,hg,QF ha a2 hv,hb])];exact a9N ho hd hn hf hx hs (fun v W N a3 hp a w ha a1=>hK a w (k v W N a3 hp a w ha a1)) kp ko ha a1
end
def YS (P:Program) (l:Nat) (xs:List (List Value)) (Y:Nat→Heap→HL→Prop) (Z:Heap→HL→Prop):Prop:=
 ∀k args,xs[k]?=some args→∀I H,Y k I H→YC P l args I H (fun e I' H'=>(e= .returned (.bool true)∧Y (k+1) I' H')∨(e= .returned (.bool false)∧Z I' H'))
def Gen (P:Program) (f:FuncId) (fst cap:List Value) (I:Heap) (xs:List (List Value)):Prop:=
 Enters P f∧∀(l:Nat) (Y:Nat→Heap→HL→Prop) (Z:Heap→HL→Prop),(∀k I1 I2 H,Le I1 I2→Y k I1 H→Y k I2 H)→YS P l xs Y Z→
  ∀H,Y 0 I H→yY P f (fst++[.func (.yield l) #[] #[]]++cap) I H (fun e I' H'=>e= .returned (.tuple #[])∧(Y xs.length I' H'∨Z I' H'))
def b1Y:List Tmp→List Value→Env→Env
 |t::ps,v::vs,e=>b1Y ps vs ((t,v)::e)
 |_,_,e=>e
theorem Has.zip{n}:∀(ps:List Tmp) (vs:List Value) (e:Env) (tmps:Array Value),(∀t∈ps,aH t n=true)→Has ⟨tmps,[]⟩ n e []→Has ⟨(ps.zip vs).foldl (fun tmps (x:Tmp×Value)=>tmps.setIfInBounds x.1 x.2) tmps,[]⟩ n (b1Y ps vs e) []
 |[],_,_,_,_,h=>h
 |_::_,[],_,_,_,h=>h
 |t::ps,_v::vs,_e,tmps,hn,h=>Has.zip ps vs _ _ (fun u N=>hn u (.tail _ N)) (Has.put (a:=⟨tmps,[]⟩) h (hn t (.head _)))
def c5b (cx:Cx) (l:Nat) (r:Loop) (body:Code) (Q:Qt):Qt
 | .normal,a,w=>∃e I H,Has a cx.n e cx.ds∧St cx.w0 cx.D cx.I0 I ((l,.loop r)::H) w∧Cj cx Q body e I ((l,.loop { r with state:= .busy })::H)
 |_,_,_=>False
def RdQ (cx:Cx) (l:Nat) (r:Loop) (Y:Heap→HL→Prop) (Z:Code→Heap→HL→Prop):Qt
 | .normal,_,w=>∃I H,St cx.w0 cx.D cx.I0 I ((l,.loop { r with state:= .busy })::H) w∧Y I H
 | .ret,_,w=>∃I H,St cx.w0 cx.D cx.I0 I ((l,.loop { r with state:= .busy })::H) w∧Z .ret I H
 | .exit id,_,w=>∃I H,St cx.w0 cx.D cx.I0 I ((l,.loop { r with state:= .busy })::H) w∧Z (.exit id) I H
 |_,_,_=>False
section
variable {cx:Cx} {Q:Qt} {e:Env} {I:Heap} {H:HL} {l:Nat} {r:Loop} {Y:Heap→HL→Prop} {Z:Code→Heap→HL→Prop}
theorem Ej.asg{body}(k:Cj cx Q body e I ((l,.loop { r with state:= .busy })::H)):Ej cx (c5b cx l r body Q) .normal e I ((l,.loop r)::H):=
 fun _ _ N O=>⟨e,I,H,N,O,k⟩
theorem Ej.b9o(h:Y I H):Ej cx (RdQ cx l r Y Z) .normal e I ((l,.loop { r with state:= .busy })::H):=fun _ _ _ N=>⟨I,H,N,h⟩
abbrev WW (b:Nat):Deferred:={ target:= .collected b,args:= #[] }
theorem Cj.rangeFunc{g:Operand}{ps:List Tmp}{assign body:Code}{f:Nat}{fst cap:List Value}{H1 R:HL}(xs:List (List Value))(Y:Nat→Heap→HL→Prop)(Z:Code→Heap→HL→Prop)
 (hr:cx.rd=none)(ah:∀t∈ps,Nat.blt t cx.n=true)(ae:∀args∈xs,args.length=ps.length)(hg:ev e g=some (.func (.func f) fst.toArray cap.toArray))(a8:Gen cx.P f fst cap I xs)
 (ab:∀k W I2 H,Le W I2→Y k W H→Y k I2 H)(h0:Y 0 I H1)
 (round:∀l r k args W O w0,xs[k]?=some args→Le I W→Y k W O→
  Cj ⟨cx.P,cx.n,w0,l::O.map (·.1),W,[],some l⟩ (c5b ⟨cx.P,cx.n,w0,l::O.map (·.1),W,[],some l⟩ l r body (RdQ ⟨cx.P,cx.n,w0,l::O.map (·.1),W,[],some l⟩ l r (Y (k+1)) Z)) assign (b1Y ps args e) W ((l,.loop r)::O))
 (done:∀b I' H',Le I I'→Y xs.length I' H'→Ej { cx with ds:=WW b::cx.ds } Q .normal e I' ((b,.deferred (some []))::(H'++R)))
 (left:∀b c I' H',Le I I'→Z c I' H'→Cj { cx with ds:=WW b::cx.ds } Q c e I' ((b,.deferred (some []))::(H'++R))):
 Cj cx Q (.rangeFunc g ps.toArray assign body) e I (H1++R):=by
 intro a w ha ai;rw[Cx.wide hr];refine wpIn_rangeFunc fun fn _=>?_;obtain⟨r,a0⟩:∃r:Loop,r={ state:= .ready,pending:=none,fn:=fn,tmps:=a.tmps,params:=ps.toArray,assign:=assign,body:=body,defers:=w.heap.size }:=⟨_,rfl⟩;obtain⟨l,hl⟩:∃l,l=w.heap.size+1:=⟨_,rfl⟩;have a3:St cx.w0 cx.D cx.I0 I (((l,.loop r)::H1)++((w.heap.size,.deferred (some []))::R)) ((w.alloc (.deferred (some []))).alloc (.loop r)):=by
  have h1:=(ai.alloc (.deferred (some []))).alloc (.loop r);have h2:(w.heap.push (.deferred (some []))).size=l:=by rw[hl,Array.size_push]
  rw[h2]at h1;refine h1.perm ?_;show((l,Obj.loop r)::(H1++(w.heap.size,Obj.deferred (some []))::R)).Perm _;exact List.Perm.cons _ dD
 let Y':Nat→Heap→HL→Prop:=fun k W H=>Le I W∧∃O,H=(l,.loop r)::O∧Y k W O
 let Z':Heap→HL→Prop:=fun W H=>∃c O,H=(l,.loop { r with state:= .done,pending:=some c })::O∧Z c W O
 have aj:YS cx.P l xs Y' Z':=by
  rintro k args hk W H ⟨hle,O,rfl,hY⟩ w1 N;have al:w1.heap[l]?=some (.loop r):=N.2.1 _ (.head _);have am:=ae args (aF hk);refine⟨r.fn,_,r.assign,r.body,run_yield al (by rw[a0];simp[am]),roundIn_of_wpIn trivial ?_⟩;have hz:(r.params.zip args.toArray).foldl (fun tmps (x:Tmp×Value)=>tmps.setIfInBounds x.1 x.2) r.tmps=(ps.zip args).foldl (fun tmps (x:Tmp×Value)=>tmps.setIfInBounds x.1 x.2) a.tmps:=by
   rw[a0];simp[List.zip_toArray]
  have a9:=Has.zip (n:=cx.n) ps args e a.tmps ah ⟨ha.size,rfl,ha.get⟩;rw[←hz]at a9;have hc:=round l r k args W O w1 hk hle hY _ _ a9 (dB w1 W ((l,.loop r)::O) N.1 N.2.1 N.2.2.1 N.2.2.2);have e1:r.assign=assign:=by rw[a0]
  have e2:r.body=body:=by rw[a0]
  rw[e1,e2];refine wpIn_mono hc ?_;rintro x a2 _ hq;cases x with
  |normal=>
   obtain⟨e2,I2,_,a6,ac,hb⟩:=hq;refine⟨_,run_beginRound (ac.own _ (.head _)) (by rw[a0]),?_⟩;have an:=ac.block (i:=0) (o':= .loop { r with state:= .busy }) rfl dU;refine wpIn_mono (hb a2 _ a6 an) ?_;rintro x _ _ a4;cases x with
   |normal=>
    obtain⟨I3,H3,a1,ao⟩:=a4;refine⟨_,_,run_endRound none (a1.own _ (.head _)),I3,(l,.loop r)::H3,?_,.inl ⟨rfl,hle.trans a1.le,H3,rfl,ao⟩⟩;have:=a1.block (i:=0) (o':= .loop r) rfl dU;rw[a0]at this ⊢;exact this
   |ret=>
    obtain⟨I3,H3,a1,aa⟩:=a4;exact⟨_,_,run_endRound (some .ret) (a1.own _ (.head _)),I3,_,a1.block (i:=0) rfl dU,.inr ⟨rfl,_,H3,rfl,aa⟩⟩
   |exit id=>
    obtain⟨I3,H3,a1,aa⟩:=a4;exact⟨_,_,run_endRound (some (.exit id)) (a1.own _ (.head _)),I3,_,a1.block (i:=0) rfl dU,.inr ⟨rfl,_,H3,rfl,aa⟩⟩
   |goto t=>exact a4.elim
   |panic ch=>exact a4.elim
   |outgrown=>exact a4.elim
  |exit id=>exact hq.elim
  |goto t=>exact hq.elim
  |ret=>exact hq.elim
  |panic ch=>exact hq.elim
  |outgrown=>exact hq.elim
 have af:=a8.2 l Y' Z' (fun k W I2 H hle ⟨h1,O,h2,h3⟩=>⟨h1.trans hle,O,h2,ab _ _ _ _ hle h3⟩) aj ((l,.loop r)::H1) ⟨dP _,H1,rfl,h0⟩;have N:Ready I ((l,.loop r)::H1) ((w.alloc (.deferred (some []))).alloc (.loop r)):=⟨a3.sub,fun p hp=>a3.own p (aC _ hp),by
  have:=a3.nodup;rw[aW,aS]at this;exact this.1,fun p hp=>a3.dis p (aC _ hp)⟩
 have ag:(Instr.enterLoop fn a.tmps ps.toArray assign body none).run cx.P w= .ok (l,[WW w.heap.size]) ((w.alloc (.deferred (some []))).alloc (.loop r)):=by
  rw[hl,a0];exact run_enterLoop_outer fn a.tmps ps.toArray assign body
 refine⟨l,[WW w.heap.size],(w.alloc (.deferred (some []))).alloc (.loop r),⟨.fn (.func f) cap.toArray,(fst++[fA (.yield l) #[] #[]]).toArray⟩,(w.alloc (.deferred (some []))).alloc (.loop r),f,(fst++[fA (.yield l) #[] #[]]++cap).toArray,(w.alloc (.deferred (some []))).alloc (.loop r),ag,?_,fun _ _=>trivial,?_,fun h=>by simp[aX]at h,callsIn_wide.2 ?_⟩
 ·have he:a.eval (.const (.func (.yield l) #[] #[]))= .func (.yield l) #[] #[]:=rfl;simp[resolve,ha.eval hg,bC,he]
 ·have h:=OX a8.1 (fst++[fA (.yield l) #[] #[]]++cap).toArray ((w.alloc (.deferred (some []))).alloc (.loop r));simpa[invoke]using h
 refine(af.2 _ N).mono ?_;rintro _ w' ⟨I',H',ad,rfl,ap⟩;have a5:=a3.call ad;have hle:=ad.le;have a6:Has { a with defers:=[WW w.heap.size]++a.defers } cx.n e (WW w.heap.size::cx.ds):=⟨ha.size,by simp[ha.defs],ha.get⟩;rcases ap with⟨_,O,rfl,hY⟩|⟨c,O,rfl,hZ⟩
 ·refine⟨_,_,run_endLoop (a5.own _ (.head _)) (by rw[a0];simp),?_⟩;have a7:=((a5.block (i:=0) (o':= .loop { r with state:= .exhausted }) rfl dU).sublist (dN _ _)).perm (H':=(w.heap.size,.deferred (some []))::(O++R)) dD.symm;have hp:r.pending=none:=by rw[a0]
  rw[hp]at a7 ⊢;exact done w.heap.size I' O hle hY _ _ a6 a7
 refine⟨_,_,run_endLoop (a5.own _ (.head _)) sI,?_⟩;have a7:=((a5.block (i:=0) (o':= .loop { { r with state:= .done,pending:=some c }with state:= .exhausted }) rfl dU).sublist (dN _ _)).perm (H':=(w.heap.size,.deferred (some []))::(O++R)) dD.symm;have hw:=left w.heap.size c I' O hle hZ _ _ a6 a7;have hF:({ cx with ds:=WW w.heap.size::cx.ds }:Cx).F=aX:=Cx.wide hr;rw[hF]at hw;exact hw
end
theorem b4t{t n}(h:aH t n=true):∀u∈[t],aH u n=true:=fun u N=>by simp at N;subst N;exact h
theorem seq1{α:Type}(l:List α)(f:α→Value):∀args∈l.map (fun x=>[f x]),args.length=1:=fun args h=>by
 obtain⟨x,_,rfl⟩:=aZ.1 h;rfl
theorem b4l{α:Type}{l:List α}{f:α→Value}{k:Nat}{args}(h:(l.map (fun x=>[f x]))[k]?=some args):∃x,l[k]?=some x∧args=[f x]:=by
 rw[eH]at h;cases hl:l[k]? with
 |none=>rw[hl]at h;cases h
 |some x=>rw[hl]at h;cases h;exact⟨x,rfl,rfl⟩
theorem Cj.b4N{N Q c e I H}(W:N.D=[])(k:(∀p∈H,N.w0.heap.size≤p.1)→Cj N Q c e I H):Cj N Q c e I H:=fun a w Z O=>k (fun p hp=>by
 have:=O.new p hp;rw[W]at this;exact this.resolve_left sI) a w Z O
theorem BL.base{O N sz n xs g T}(h:BL O sz n xs g)(W:∀p∈gH T xs g,N≤p.1):BL N sz n xs g:=by
 cases g with
 |none=>exact h
 |some q=>exact⟨W _ (.head _),h.2⟩
theorem yY.a9P{P f fn c args I H}{N:Ending→Heap→HL→Prop}(Z:P.funcs[f]?=some fn)(hb:fn.body=some c)(W:fn.name≠ "runtime.NumGoroutine")
 (hn:args.length≤fn.ntmps)
 (h:∀w0,Ready I H w0→Cj ⟨P,fn.ntmps,w0,H.map (·.1),I,[],none⟩ (bodyPostM aX 0 P fn (RR w0 (H.map (·.1)) I N)) c (NR 0 args) I H):yY P f args I H N:=by
 refine⟨⟨fn,Z,W,by simp[hb]⟩,fun w O=>?_⟩;refine(callsIn_wide (n:=0)).1 (callsIn_of_wp_marks Z hb trivial ?_);exact h w O _ _ (Has.start args fn.ntmps hn) (dB w I H O.1 O.2.1 O.2.2.1 O.2.2.2)
def ZI (cx:Cx) (fn:Func) (post:Ending→Heap→HL→Prop) (ds:List Deferred) (e:Env) (I:Heap) (H:HL):Prop:=
 ∀a w,Has a cx.n e cx.ds→St cx.w0 cx.D cx.I0 I H w→LeavesInM aX 0 cx.P fn a.tmps (RR cx.w0 cx.D cx.I0 post) ds .returning w
section
variable {cx:Cx} {fn:Func} {post:Ending→Heap→HL→Prop} {e:Env} {I:Heap} {H H':HL} {ds:List Deferred}
theorem Ej.b8c{x}(O:x= .ret∨x= .normal)(h:ZI cx fn post cx.ds e I H):Ej cx (bodyPostM aX 0 cx.P fn (RR cx.w0 cx.D cx.I0 post)) x e I H:=by
 intro a w N W;have:=h a w N W;rw[←N.defs]at this;rcases O with rfl|rfl
 ·exact this
 exact this
theorem ZI.mark{b} i (N:H[i]?=some (b,.deferred (some [])))(O:AU H i (b,.deferred none) H')(h:ZI cx fn post ds e I H'):ZI cx fn post (WW b::ds) e I H:=
 fun a _ Z W=>⟨sI,.inl ⟨b,_,rfl,run_takeDeferred (W.own _ (aF N)),h a _ Z (W.block N O)⟩⟩
theorem ZI.keep(N:Keeps H' H)(h:ZI cx fn post ds e I H'):ZI cx fn post ds e I H:=fun a w O W=>h a w O (W.sublist N)
theorem ZI.ZO{t v}(N:fn.results= #[.tmp t])(O:eg e t=some v)(W:post (.returned v) I H):ZI cx fn post [] e I H:=by
 intro a w Z hs;refine⟨v,?_,I,H,hs,W⟩;rw[results_tmp N];have:=Z.get t v O;simp[this]
end
section
variable {α:Type} [BEq α] [LawfulBEq α]
abbrev ML (α:Type):=List (α×Value×Nat)
abbrev IV (kv:α→Value) (p:α×Value×Nat):MapEntry:={ key:=kv p.1,val:=p.2.1,born:=p.2.2 }
def zY (kv:α→Value) (l:ML α) (c:Nat):Obj:= .map (l.map (IV kv)).toArray c
def AA (l:ML α) (a:α):Option Value:=match l with
 |[]=>none
 |(b,v,_)::r=>if a == b then some v else AA r a
def BD (l:ML α) (a:α) (v:Value) (c:Nat):ML α:=match l with
 |[]=>[(a,v,c)]
 |(b,u,n)::r=>if a == b then(b,v,n)::r else(b,u,n)::BD r a v c
def EN (l:ML α) (a:α) (c:Nat):Nat:=if (AA l a).isSome then c else c+1
def midx (l:ML α) (a:α) (i:Nat):Option (Nat×Value):=match l with
 |[]=>none
 |(b,v,_)::r=>if a == b then some (i,v)else midx r a (i+1)
def ET (P:Program) (K:TypeId) (kv:α→Value):Prop:=
 (∀(a:α) (l:ML α) (w:World),(aQ K (kv a) (l.map (IV kv))).run P w= .ok (midx l a 0) w)∧(∀b a w,(aO b 10000 K (kv a)).run P w= .ok () w)∧∀a,aV 10000 (kv a) (kv a)=true
theorem run_findKey{P K w d}(N:P.underlying K=some d){k es r}(h:bJ d k es 0=some r):(aQ K k es).run P w= .ok r w:=by
 simp[aQ,run_underlying N,h]
omit [LawfulBEq α] in
theorem a2U{kv d}(N:∀a b,bK d (kv a) (kv b)=some (a == b)) a:∀(l:ML α) (i:Nat),bJ d (kv a) (l.map (IV kv)) i=some (midx l a i)
 |[],_=>rfl
 |(b,u,n)::r,i=>by
  simp only[bY,bJ,N,midx];cases a == b
  ·simp only[aP,if_false];exact a2U N a r (i+1)
  simp
omit [LawfulBEq α] in
theorem ET.now{P K}{kv:α→Value}{d}(N:P.underlying K=some d)(O:∀a b,bK d (kv a) (kv b)=some (a == b))(W:∀b a w,(aO b 10000 K (kv a)).run P w= .ok () w)(Z:∀a,aV 10000 (kv a) (kv a)=true):ET P K kv:=
 ⟨fun a l _=>run_findKey N (a2U O a l 0),W,Z⟩
omit [LawfulBEq α] in
theorem a5E{P K kv w}(N:∀a b,(Op.equal K (kv a) (kv b)).run P w= .ok (a == b) w) a:∀(l:ML α) (i:Nat),(dF K (kv a) (l.map (IV kv)) i).run P w= .ok (midx l a i) w
 |[],i=>by simp[dF,midx]
 |(b,u,n)::r,i=>by
  simp only[bY,dF,midx,aB,N,aA];cases a == b
  ·simp only[aP,if_false];exact a5E N a r (i+1)
  simp
omit [LawfulBEq α] in
theorem ET.equal{P K}{kv:α→Value}{d}(N:P.underlying K=some d)(O:∀a b,bK d (kv a) (kv b)=none)(W:∀a b w,(Op.equal K (kv a) (kv b)).run P w= .ok (a == b) w)(Z:∀b a w,(aO b 10000 K (kv a)).run P w= .ok () w)(hb:∀a,aV 10000 (kv a) (kv a)=true):ET P K kv:=by
 refine⟨fun a l w=>?_,Z,hb⟩;cases l with
 |nil=>exact run_findKey N rfl
 |cons p r=>
  have h1:bJ d (kv a) ((p::r).map (IV kv)) 0=none:=by simp[bJ,O]
  have h2:=a5E (P:=P) (K:=K) (w:=w) (fun a b=>W a b w) a (p::r) 0;simp only[aQ,aB,run_underlying N,aA,h1];exact h2
theorem ET.int{P K k}(N:P.underlying K=some (.int k)):ET P K (fun a:Int=>Value.int k a):=by
 refine ET.now N (fun a b=>by simp[bK]) (fun b a w=>?_) (fun a=>?_)
 ·have h:∀n,(aO b (n+1) K (.int k a)).run P w= .ok () w:=fun n=>by simp[aO,run_underlying N]
  exact h 9999
 have h:∀n,aV (n+1) (.int k a) (.int k a)=true:=fun n=>by simp[aV]
 exact h 9999
theorem a3a a:∀n,aV n (str a) (str a)=true:=fun n=>by
 cases n<;>simp only[aV,str]<;>(show(a.toArray == a.toArray)=true)<;>simp
theorem ET.text{P K}(N:P.underlying K=some .string):ET P K (fun a:List UInt8=>str a):=by
 refine ET.now N (fun a b=>?_) (fun b a w=>run_checkKey N b a w) (fun a=>a3a a _);simp only[bK,str,Option.some.injEq];show(a.toArray == b.toArray)=(a == b);simp
theorem TK{a}:∀(l:ML α) (i:Nat),AA l a=none→midx l a i=none∧∀v c,BD l a v c=l++[(a,v,c)]
 |[],_,_=>⟨rfl,fun _ _=>rfl⟩
 |(b,u,n)::r,i,h=>by
  unfold AA at h
  split at h
  ·cases h
  rename_i N
  obtain⟨h1,h2⟩:=TK r (i+1) h;have O:(a == b)=false:=by simpa using N
  refine⟨?_,fun v c=>?_⟩
  ·simp only[midx,O];exact h1
  simp only[BD,O,aP,if_false,h2,List.cons_append]
theorem a0v{a v}:∀(l:ML α) (i:Nat),AA l a=some v→
 ∃j u n,midx l a i=some (i+j,v)∧l[j]?=some (a,u,n)∧∀x c,BD l a x c=l.set j (a,x,n)
 |[],_,h=>by cases h
 |(b,u,n)::r,i,h=>by
  unfold AA at h
  split at h
  ·rename_i Z
   have N:=zB Z;subst N;cases h;exact⟨0,v,n,by simp[midx],rfl,fun x c=>by simp[BD]⟩
  rename_i O
  have W:(a == b)=false:=by simpa using O
  obtain⟨j,u',n',h1,h2,h3⟩:=a0v r (i+1) h;refine⟨j+1,u',n',?_,by simpa using h2,fun x c=>by simp[BD,W,h3]⟩;simp only[midx,W,aP,if_false];rw[h1,fG,Nat.add_comm 1 j]
variable {cx:Cx} {Q:Qt} {e:Env} {I:Heap} {H:HL} {o:Oper} {C:Ct} {S:World→Prop}
theorem a9C{P:Program}{T K E b c:Nat}{kv:α→Value}{l:ML α}{a:α}{v:Value}{w:World}(hT:P.underlying T=some (.map K E))(hk:ET P K kv)(hb:w.heap[b]?=some (zY kv l c)):
 (dI T (.map (some b)) (kv a) v).run P w= .ok () (aN w b (zY kv (BD l a v c) (EN l a c))):=by
 obtain⟨hf,hc,N⟩:=hk;have hg:(getObj b).run P w= .ok (zY kv l c) w:=by simp[getObj,dQ,hb,zY]
 have hset:∀o',(setObj b o').run P w= .ok () (aN w b o'):=fun o'=>by simp[setObj,dQ,hb,aN,zY]
 cases hm:AA l a with
 |none=>
  obtain⟨h1,h2⟩:=TK l 0 hm;have h3:(aQ K (kv a) (l.map (IV kv))).run P w= .ok none w:=by rw[hf,h1]
  simp only[dI,aB,run_underlying hT,aA,hg,zY,hc,h3,hset,h2,EN,hm];simp
 |some u=>
  obtain⟨j,u',n,h1,h2,h3⟩:=a0v l 0 hm;rw[Nat.zero_add]at h1;have h4:(aQ K (kv a) (l.map (IV kv))).run P w= .ok (some (j,u)) w:=by rw[hf,h1]
  have hj:(l.map (IV kv)).toArray[j]?=some { key:=kv a,val:=u',born:=n }:=by simp[h2,IV]
  have O:∀w,(dY (kv a) (kv a)).run P w= .ok (kv a) w:=fun w=>by simp[dY,N]
  simp only[dI,aB,run_underlying hT,aA,hg,zY,hc,h4,hj,Option.map_some,Option.getD_some,O,hset,h3,EN,hm];simp only[Option.isSome_some,if_true];refine zC (fun A=>Result.ok () (aN w b (Obj.map A c))) ?_
  apply bV
  intro i;rw[dS];simp only[List.getElem?_toArray,eH,eG]
  by_cases hi:j=i
  ·subst hi;have W:j<l.length:=by
    rcases dA j l.length with Z|Z
    ·exact Z
    simp[List.getElem?_eq_none Z]at h2
   have h5:l[j]=(a,u',n):=by
    have:=List.getElem?_eq_getElem W;rw[h2]at this;exact(Option.some.inj this).symm
   simp[W,h5]
  simp[hi]
theorem ES{T K E b c:Nat}{m x y}{kv:α→Value}{l a}{W v:Value}{H'}(i:Nat)(N:o.op= .insert T m x y∨o.op= .mapUpdate T m x y)(hd:o.dst=none)(hm:ev e m=some (.map (some b)))(hx:ev e x=some W)(Z:W=kv a)(hy:ev e y=some v)(hT:cx.P.underlying T=some (.map K E))(hK:ET cx.P K kv)
 (hH:H[i]?=some (b,zY kv l c))(a0:AU H i (b,zY kv (BD l a v c) (EN l a c)) H')(kk:C e I H'):DJ cx Q o e I H C:=by
 intro _ a1 w0 w O hs;unfold aU;subst Z;have hb:=hs.own _ (aF hH);have hr:=a9C (a:=a) (v:=v) hT hK hb;have:(execOp w0.eval o).run cx.P w= .ok .skip (aN w b (zY kv (BD l a v c) (EN l a c))):=by
  rcases N with N|N<;>simp[execOp,N,O.eval hm,O.eval hx,O.eval hy,hr]
 rw[this];simp only[aI,hd];exact a1 _ _ _ kk _ _ O.WE (hs.block hH a0)
theorem a5F{P:Program}{T K E b c:Nat}{kv:α→Value}{l:ML α}{a:α}{z:Value}{w:World}{ok:Bool}(N:P.underlying T=some (.map K E))(hk:ET P K kv)(hz:∀w,(zeroValue E).run P w= .ok z w)(hb:w.heap[b]?=some (zY kv l c)):
 (dZ T (.map (some b)) (kv a) ok).run P w= .ok (if ok then .tuple #[(AA l a).getD z,.bool (AA l a).isSome]else(AA l a).getD z) w:=by
 obtain⟨O,W,_⟩:=hk;have Z:(getObj b).run P w= .ok (zY kv l c) w:=by simp[getObj,dQ,hb,zY]
 cases hm:AA l a with
 |none=>
  have h3:(aQ K (kv a) (l.map (IV kv))).run P w= .ok none w:=by rw[O,(TK l 0 hm).1]
  simp only[dZ,aB,run_underlying N,aA,Z,zY,aG,W,h3,hz];simp
 |some u=>
  obtain⟨j,_,n,h1,h2,h3⟩:=a0v l 0 hm;have h4:(aQ K (kv a) (l.map (IV kv))).run P w= .ok (some (0+j,u)) w:=by rw[O,h1]
  simp only[dZ,aB,run_underlying N,aA,Z,zY,aG,W,h4];simp
theorem a6w{T K E b c:Nat}{m x}{kv:α→Value}{l a}{N z:Value}(Z:o.op= .lookup T m x true)(hm:ev e m=some (.map (some b)))(hx:ev e x=some N)(O:N=kv a)(hT:cx.P.underlying T=some (.map K E))(hK:ET cx.P K kv)(hz:∀w,(zeroValue E).run cx.P w= .ok z w)
 (hb:yZ S b (zY kv l c)):BO cx o e S (.tuple #[(AA l a).getD z,.bool (AA l a).isSome]):=by
 intro w0 w W hs;subst O;have hr:=a5F (a:=a) (ok:=true) hT hK hz (hb w hs);simp only[execOp,Z,aB,W.eval hm,W.eval hx,hr,aA,aG,if_true]
theorem BI{T K E b c:Nat}{m x}{kv:α→Value}{l a}{N z:Value}(Z:o.op= .lookup T m x false)(hm:ev e m=some (.map (some b)))(hx:ev e x=some N)(O:N=kv a)(hT:cx.P.underlying T=some (.map K E))(hK:ET cx.P K kv)(hz:∀w,(zeroValue E).run cx.P w= .ok z w)
 (hb:yZ S b (zY kv l c)):BO cx o e S ((AA l a).getD z):=by
 intro w0 w W hs;subst O;have hr:=a5F (a:=a) (ok:=false) hT hK hz (hb w hs);simp only[execOp,Z,aB,W.eval hm,W.eval hx,hr,aA,aG,if_false,aP]
end
theorem c2l(c d:UInt8):((c.toNat:Int)=(d.toNat:Int))↔c=d:=by
 constructor
 ·intro h;exact UInt8.toNat_inj.1 oM
 intro h;subst h;rfl
theorem nb(a n:Nat):((a:Int) == (n:Int))=(a == n):=by rw[Bool.eq_iff_iff,beq_iff_eq,beq_iff_eq];omega
theorem c2o{c d:UInt8}(h:(c.toNat:Int)=(d.toNat:Int)):c=d:=(c2l c d).1 h
theorem b7P{c d:UInt8}(h:¬(c.toNat:Int)=(d.toNat:Int)):c≠d:=fun e=>h ((c2l c d).2 e)
theorem c1P{s:List UInt8}{k c}(h:s[k]?=some c):(s.take (k+1)).drop k=[c]:=by
 obtain⟨N,O⟩:=aK.1 h;rw[List.take_succ_eq_append_getElem N,O,List.drop_append,dM (by simp;omega)];simp[dH (Nat.le_of_lt N)]
def JH (T:TypeId) (I:Heap) (l:List (List UInt8)) (v:Value):Prop:=∃b c sp,v= .slice (some ⟨b,0,none⟩) l.length c∧I b=some (yX T (l.map str++sp))
theorem JH.mono{T I N l v}(h:JH T I l v)(O:Le I N):JH T N l v:=
 let ⟨b,c,sp,h1,h2⟩:=h;⟨b,c,sp,h1,O _ _ h2⟩
theorem FT{l:List (List UInt8)}{sp}{k:Nat}{x}(h:l[k]?=some x):(l.map str++sp)[k]?=some (str x):=by
 obtain⟨N,_⟩:=aK.1 h;rw[aT (by simpa using N)];simp[h]
theorem NW l:(⟨l.toArray⟩:ByteArray).data.toList=l:=sI
theorem c6t{x}(h: -2147483648≤x∧x≤2147483647):fJ.wrap x=x:=by
 simp[IntKind.wrap,IntKind.bits,IntKind.signed];omega
theorem drop_cons{α:Type}{s:List α}{k c}(h:s[k]?=some c):s.drop k=c::s.drop (k+1):=by
 obtain⟨N,O⟩:=aK.1 h;rw[List.drop_eq_getElem_cons N,O]
theorem Ej.c0S{N fn}{O:Ending→Heap→HL→Prop}{e I H t u s v x y}(hr:fn.results= #[.tmp t,.tmp u,.tmp s])(Z:N.ds=[])(hv:eg e t=some v)(hx:eg e u=some x)(hy:eg e s=some y)(hp:O (.returned (.tuple #[v,x,y])) I H):
 Ej N (bodyPost N.P fn (RR N.w0 N.D N.I0 O)) .ret e I H:=by
 intro a w W hs;refine⟨W.defs.trans Z,_,?_,I,H,hs,hp⟩;have h1:=W.get t v hv;have h2:=W.get u x hx;have h3:=W.get s y hy;simp[results,hr,h1,h2,h3]
theorem yY.frame{P f args I H}{O:Ending→Heap→HL→Prop} R (h:yY P f args I H O):yY P f args I (H++R) (fun e I' H'=>∃H1,H'=H1++R∧O e I' H1):=by
 refine⟨h.1,fun w hw=>?_⟩;have N:=dB w I (H++R) hw.1 hw.2.1 hw.2.2.1 hw.2.2.2;have W:Ready I H w:=⟨N.sub,fun p Z=>N.own p (aC _ Z),by
  have:=N.nodup;rw[aW,aS]at this;exact this.1,fun p Z=>N.dis p (aC _ Z)⟩
 refine(h.2 w W).mono fun e w' ⟨I',H1,hs,Z⟩=>⟨I',H1++R,N.call hs,H1,rfl,Z⟩
theorem yY.drop{P f args I H}{O N:Ending→Heap→HL→Prop}(h:yY P f args I H O)(hp:∀e W H',O e W H'→∃Z,Z.Sublist H'∧N e W Z):yY P f args I H N:=
 ⟨h.1,fun w hw=>(h.2 w hw).mono fun e _ ⟨W,H',hs,hq⟩=>let ⟨Z,h1,h2⟩:=hp e W H' hq;⟨W,Z,hs.sublist h1,h2⟩⟩
theorem IQ{cx Q o e I C R d f fo xs ts fst cap vs}{W:Ending→Heap→HL→Prop}
 (ho:o.op= .call ⟨.value fo,xs.toArray,ts⟩)(hd:o.dst=some d)(hn:aH d cx.n=true)(hf:ev e fo=some (.func (.func f) fst.toArray cap.toArray))(hx:evs e xs=some vs)
 (hs:yY cx.P f (fst++vs++cap) I [] W)
 (k:∀v O N,Le I O→(∀p∈N,cx.w0.heap.size≤p.1)→W (.returned v) O N→C ((d,v)::e) O (N++R))
 (kp:∀ch O N,Le I O→W (.panicked ch) O N→Ej cx Q (.panic ch) e O (N++R))
 (ko:∀O N,¬W .outgrown O N):DJ cx Q o e I R C:=by
 intro K hK a w ha a0;unfold aU;have hr:(execOp a.eval o).run cx.P w= .ok (.enter f (fst++vs++cap).toArray) w:=by
  have a6:xs.toArray.map a.eval=vs.toArray:=by
   rw[bM,ha.WI hx]
  simp only[execOp,ho,resolve,a6,ha.eval hf,bC,invoke,aB,aG,aA,OX hs.1];simp
 rw[hr];simp only[aI];have a1:Ready I [] w:=⟨a0.sub,fun _ Z=>absurd Z (eX),List.nodup_nil,fun _ Z=>absurd Z (eX)⟩;refine(hs.2 w a1).mono ?_;rintro en w' ⟨O,N,a2,Z⟩;have a4:=a2.le;have a3:=St.call (H1:=[]) (R:=R) a0 a2;have a5:∀p∈N,cx.w0.heap.size≤p.1:=fun p Z=>Nat.le_trans a0.size ((a2.new p Z).resolve_left sI);cases en with
 |returned v=>
  rw[hd];exact hK _ _ _ (k v O N a4 a5 Z) _ _ (ha.put hn) a3
 |panicked ch=>exact kp ch O N a4 Z _ _ ha a3
 |outgrown=>exact(ko _ _ Z).elim
def IG (T:TypeId) (I:Heap) (l:List (List UInt8)) (v:Value):Prop:=(l=[]∧v= .slice none 0 0)∨∃b c sp,v= .slice (some ⟨b,0,none⟩) l.length c∧l.length≤c∧I b=some (yX T (l.map str++sp))
theorem IG.mono{T I N l v}(h:IG T I l v)(O:Le I N):IG T N l v:=h.imp id fun⟨b,c,sp,h1,h2,h3⟩=>⟨b,c,sp,h1,h2,O _ _ h3⟩
theorem IG.some{T I l v}(h:IG T I l v)(N:l≠[]):JH T I l v:=let ⟨b,c,sp,h1,_,h3⟩:=h.resolve_left fun h=>N h.1;⟨b,c,sp,h1,h3⟩
section
variable {cx:Cx} {Q:Qt} {e:Env} {I:Heap} {R:HL} {T:TypeId} {l:List (List UInt8)} {n base:Nat} {g:Gs}
theorem c3M(N:BL base 1 n (l.map str) none):l=[]∧n=0:=⟨by simpa using N.2,N.1⟩
theorem c3c{b c sp}(N:BL base 1 n (l.map str) (some (b,c,sp))):base≤b∧n=l.length∧l.length≤c:=⟨N.1,by have:=N.2.1;simpa using this.symm,by have:=N.2.2;simp at this;omega⟩
theorem b1b{X:Heap→HL→Prop}(O:BL base 1 n (l.map str) g)(Z:∀b o,base≤b→(∀N,Le I N→N b=some o→X N R)→X I ((b,o)::R))(k:∀N,Le I N→IG T N l (gV n g)→X N R):X I (gH T (l.map str) g++R):=by
 cases g with
 |none=>
  obtain⟨h1,h2⟩:=c3M O;subst h2;exact k I (dP _) (.inl ⟨h1,rfl⟩)
 |some q=>
  obtain⟨b,c,sp⟩:=q;obtain⟨h1,h2,h3⟩:=c3c O;subst h2;exact Z b _ h1 fun N W hb=>k N W (.inr ⟨b,c,sp,rfl,h3,hb⟩)
theorem Cj.RU{c}(O:BL cx.w0.heap.size 1 n (l.map str) g)(k:∀N,Le I N→IG T N l (gV n g)→Cj cx Q c e N R):Cj cx Q c e I (gH T (l.map str) g++R):=
 b1b (X:=fun I H=>Cj cx Q c e I H) O (fun _ _ W k=>fB W k) k
theorem J.RU{N r}(W:BL cx.w0.heap.size 1 n (l.map str) g)(k:∀O,Le I O→IG T O l (gV n g)→J cx Q N r e O R):J cx Q N r e I (gH T (l.map str) g++R):=
 b1b (X:=fun I H=>J cx Q N r e I H) W (fun _ _ Z k=>J.persist Z k) k
end
section
variable {cx:Cx} {Q:Qt} {o:Oper} {e:Env} {I:Heap} {H:HL} {C:Ct} {S:World→Prop}
theorem QK{d T E sz}(W:o.op= .buildSlice T 0 #[])(Z:o.dst=some d)(hn:aH d cx.n=true)
 (hu:cx.P.underlying T=some (.slice E))(N:∀w,(sizeOf E).run cx.P w= .ok sz w)
 (k:∀b,cx.w0.heap.size≤b→C ((d,.slice (some ⟨b,0,none⟩) 0 0)::e) I ((b,yX E [])::H)):DJ cx Q o e I H C:=by
 intro K hK a w ha O;unfold aU;have:(execOp a.eval o).run cx.P w= .ok (.value (.slice (some ⟨w.heap.size,0,none⟩) 0 0)) { w with heap:=w.heap.push (yX E []) }:=by
  simp[execOp,W,Instr.buildSlice,run_underlying hu,N,Instr.fill,newRow,yX];exact zC (fun l=>w.alloc (Obj.cells l E)) (Array.eq_empty_of_size_eq_zero sI)
 rw[this];simp only[aI,Z];exact hK _ _ _ (k _ O.size) _ _ (ha.put hn) (O.alloc _)
theorem a2I{T E sz len}{parts:List (Nat×Operand)}{vs zs cs:List Value}{z}(W:o.op= .build T parts.toArray)(Z:evs e (parts.map (·.2))=some vs)
 (hz:∀w,(zeroValue T).run cx.P w= .ok z w)(N:z.cells=zs.toArray)(hu:cx.P.underlying T=some (.array len E))(O:∀w,(sizeOf E).run cx.P w= .ok sz w)
 (hb:Instr.fill (fun i=>some (i*sz,sz)) zs.toArray ((parts.map (·.1)).zip vs)=some cs.toArray):BO cx o e S (.agg cs.toArray):=
 a9V W Z fun w=>by
  simp only[Instr.build,aB,hz,N,run_underlying hu,aA,O,hb,aG]
theorem a9r{P w T l m}(N:P.underlying T=some .bool):(Op.equal T (.bool l) (.bool m)).run P w= .ok (l == m) w:=by
 show(bP (9999+1) T (.bool l) (.bool m)).run P w=_;rw[bP];simp only[aB,run_underlying N,aA,aG]
theorem b6s{x y T U l m}(O:o.op= .binOp .eql T x y U)(W:ev e x=some (.bool l))(Z:ev e y=some (.bool m))(hT:cx.P.underlying T=some .bool):BO cx o e S (.bool (l == m)):=by
 intro a w N _;have hg:eqGuard .eql T x y (.bool l) (.bool m)=pure ():=rfl;simp[execOp,O,N.eval W,N.eval Z,hg,binOp,a9r hT]
end
def rcs (l:List Nat):List Value:=l.map fun(r:Nat)=>Value.int .i32 (r:Int)
theorem b3B{l sp}{k c:Nat}(h:l[k]?=some c):(rcs l++sp)[k]?=some (.int .i32 (c:Int)):=by
 obtain⟨N,_⟩:=aK.1 h;rw[aT (by simpa[rcs]using N)];simp[rcs,h]
section
variable {cx:Cx} {Q:Qt} {o:Oper} {e:Env} {I:Heap} {H:HL} {C:Ct} {S:World→Prop}
theorem a6C{W T E d x l rs}(hr:Conv.runesFrom ⟨l.toArray⟩ l.length 0 #[]=(rcs rs).toArray)(ho:o.op= .convert W T x)(hd:o.dst=some d)(hn:aH d cx.n=true)(hx:ev e x=some (str l))
 (hS:cx.P.underlying W=some .string)(hT:cx.P.underlying T=some (.slice E))(hE:cx.P.underlying E=some (.int .i32))
 (k:∀b c sp,cx.w0.heap.size≤b→C ((d,.slice (some ⟨b,0,none⟩) rs.length c)::e) I ((b,yX E (rcs rs++sp))::H)):DJ cx Q o e I H C:=by
 intro K hK a w Z N;unfold aU
 let cap:=(bW rs.length 0 E).cut (w.tape w.drawn (.appendCap rs.length 0 E))
 let sp:List Value:=bU (cap-rs.length) (.int .i32 0)
 have a0:(rcs rs).toArray.size=rs.length:=by simp[rcs]
 have O:(execOp a.eval o).run cx.P w= .ok (.value (.slice (some ⟨w.heap.size,0,none⟩) rs.length cap))
  { { w with drawn:=w.drawn+1 }with heap:=w.heap.push (yX E (rcs rs++sp)) }:=by
  have h0:(rcs rs).toArray++Array.replicate (cap-rs.length) (Value.int fJ 0)=(rcs rs++sp).toArray:=by
   simp[sp]
  simp only[execOp,ho,convert,Z.eval hx,str,aB,run_underlying hS,run_underlying hT,aA,run_underlying hE,Conv.stringToRunes,size_mk,hr,a0,run_choose,Question.forced,newRow,run_newObj,aP,if_false,aG];rw[show(bW rs.length 0 E).cut (w.tape w.drawn (bW rs.length 0 E))=cap from rfl,h0];rfl
 rw[O];simp only[aI,hd];exact hK _ _ _ (k w.heap.size cap sp N.size) _ _ (Z.put hn) ((N.drewN (w.drawn+1)).alloc _)
theorem c1Y{base sz n xs g}(h:BL base sz n xs g):∃p c,gV n g= .slice p n c:=by
 cases g with
 |none=>obtain⟨rfl,_⟩:=h;exact⟨none,0,rfl⟩
 |some q=>obtain⟨b,c,sp⟩:=q;exact⟨_,c,rfl⟩
theorem b4u{base sz n xs g}(h:BL base sz n xs g){x T E}(N:o.op= .call ⟨.builtin .len,#[x],#[T]⟩)(O:ev e x=some (gV n g))(W:cx.P.underlying T=some (.slice E)):BO cx o e S (i64 (n:Int)):=by
 obtain⟨p,c,Z⟩:=c1Y h;exact RJ N (O.trans (zC some Z)) W
theorem b7L{O T E x} r {b c}{cs:List Value}{t fr}(W:o.op= .convert O T x)(Z:ev e x=some (.slice (some ⟨b,0,none⟩) 1 c))
 (hS:cx.P.underlying O=some (.slice E))(hT:cx.P.underlying T=some .string)(hE:cx.P.underlying E=some (.int .i32))(hb:yZ S b (.cells cs.toArray t fr))(hl:cs[0]?=some (.int .i32 r)):
 BO cx o e S (str (Utf8.encode r).data.toList):=by
 intro a w ha hs;have hc:∀j v,[Value.int .i32 r][j]?=some v→w.cell? ((⟨b,0,none⟩:Addr).add j)=some v:=fun j v N=>by
  rw[bQ];refine cell_of_heap (hb w hs) ?_;cases j with
  |zero=>simp at N;subst N;simpa using hl
  |succ j=>simp at N
 have h1:=run_loadCells_list (P:=cx.P) (w:=w) ⟨b,0,none⟩ [Value.int .i32 r] hc;have h2:(loadCells ⟨b,0,none⟩ 1).run cx.P w= .ok #[Value.int .i32 r] w:=h1;simp only[execOp,W,convert,ha.eval Z,aB,run_underlying hS,run_underlying hT,aA,run_underlying hE,Conv.runesToString,h2];simp[str]
end
section
variable {cx:Cx} {Q:Qt} {o:Oper} {e:Env} {I:Heap} {H:HL} {C:Ct} {S:World→Prop}
theorem a7W{x y T U l m}(O:o.op= .binOp .lss T x y U)(W:ev e x=some (str l))(Z:ev e y=some (str m)):BO cx o e S (.bool (decide (l<m))):=by
 intro a w N _;have h:=bI l m;simp[execOp,O,N.eval W,N.eval Z,str,eqGuard_at_string,binOp,eU,h]
theorem a3l{x y T U l m}(O:o.op= .binOp .geq T x y U)(W:ev e x=some (str l))(Z:ev e y=some (str m)):BO cx o e S (.bool (!decide (l<m))):=by
 intro a w N _;have h:=bI l m;simp[execOp,O,N.eval W,N.eval Z,str,eqGuard_at_string,binOp,eU,h]
theorem b8o{x y T U l m}(O:o.op= .binOp .gtr T x y U)(W:ev e x=some (str l))(Z:ev e y=some (str m)):BO cx o e S (.bool (!(decide (l<m) || l == m))):=by
 intro a w N _;have h:=bI l m;simp[execOp,O,N.eval W,N.eval Z,str,eqGuard_at_string,binOp,eU,h]
end
theorem Le.mono{I J K}(h:Le I J)(k:Le J K):Le I K:=h.trans k
theorem Ej.a7D{N fn}{O:Ending→Heap→HL→Prop}{e I H H' t T b n}{cs:List Value}{ty fr}(hk:Keeps H' H)(hr:fn.results= #[.cell t T])(W:N.ds=[])(hv:eg e t=some (ptr b 0))
 (hb:yZ (SS I H) b (.cells cs.toArray ty fr))(Z:∀w,(isAgg T).run N.P w= .ok true w)(a0:∀w,(sizeOf T).run N.P w= .ok n w)(hn:cs.length=n)(hp:O (.returned (.agg cs.toArray)) I H'):
 Ej N (bodyPost N.P fn (RR N.w0 N.D N.I0 O)) .ret e I H:=by
 intro a w ha hs;refine⟨ha.defs.trans W,_,?_,I,H',hs.sublist hk,hp⟩;have h1:=ha.get t _ hv;have hc:∀j v,cs[j]?=some v→w.cell? ((⟨b,0,none⟩:Addr).add j)=some v:=fun j v hj=>by
  rw[bQ];exact cell_of_heap (hb w hs.ss) (by simpa using hj)
 have h2:=run_loadCells_list (P:=N.P) (w:=w) ⟨b,0,none⟩ cs hc;rw[hn]at h2;simp[results,hr,h1,asAddr,loadVar,Z,a0,h2]
end Go.Sx
namespace Go.Sx
open Go Go.Sort Go.Proofs
end Go.Sx
namespace Go.Sx
open Go
theorem EO{α:Type}{f:α→List Value}{n:Nat}(N:∀x,(f x).length=n){sp:List Value}:∀{l:List α} {k:Nat} {x:α},l[k]?=some x→((l.flatMap f++sp).drop (k*n)).take n=f x
 |[],_,_,h=>by simp at h
 |y::l,0,x,h=>by
  simp at h;subst h;rw[Nat.zero_mul,List.drop_zero,bG,cZ,←N y,fC]
 |y::l,k+1,x,h=>by
  have O:l[k]?=some x:=by simpa using h
  have:=EO N (sp:=sp) O;rw[bG,cZ,show(k+1)*n=(f y).length+k*n by rw[N y,Nat.add_mul];omega,←fD,List.drop_left];exact this
theorem b0J{α:Type}{f:α→List Value}{n:Nat}(N:∀x,(f x).length=n){sp:List Value}{l:List α}{k:Nat}{x:α}(h:l[k]?=some x)(j:Nat)(O:j<n):(l.flatMap f++sp)[k*n+j]?=(f x)[j]?:=by
 rw[←EO N (sp:=sp) h,List.getElem?_take,zF O,eF]
theorem BF{α:Type}{f n}(N:∀x,(f x).length=n){cs sp:List Value}{o}{l:List α}(h:cs.drop o=l.flatMap f++sp){k x}(O:l[k]?=some x):(cs.drop (o+k*n)).take n=f x:=by
 rw[←fD,h];exact EO N O
theorem DT{α:Type}{f n}(N:∀x,(f x).length=n){cs sp:List Value}{o}{l:List α}(h:cs.drop o=l.flatMap f++sp){k x}(O:l[k]?=some x) j (W:j<n):cs[o+k*n+j]?=(f x)[j]?:=by
 rw[←b0J N (sp:=sp) O j W,←h,eF,fG]
def zS {α:Type} (f:α→List Value) (I:Heap) (l:List α) (v:Value):Prop:=
 ∃p c,v= .slice p l.length c∧l.length≤c∧(l≠[]→∃b o cs t fr sp,p=some ⟨b,o,none⟩∧I b=some (.cells (List.toArray cs) t fr)∧cs.drop o=l.flatMap f++sp)
theorem zS.mono{α:Type}{f:α→List Value}{I N:Heap}{l:List α}{v:Value}(h:zS f I l v)(O:Le I N):zS f N l v:=
 let ⟨p,c,h1,h2,h3⟩:=h;⟨p,c,h1,h2,fun W=>let ⟨b,o,cs,t,fr,sp,Z,h5,h6⟩:=h3 W;⟨b,o,cs,t,fr,sp,Z,O _ _ h5,h6⟩⟩
theorem zS.of{α:Type}{f:α→List Value}{I:Heap}{l:List α}{T b c:Nat}{sp:List Value}(N:l.length≤c)(O:I b=some (yX T (l.flatMap f++sp))):zS f I l (.slice (some ⟨b,0,none⟩) l.length c):=
 ⟨_,c,rfl,N,fun _=>⟨b,0,_,T,_,sp,rfl,O,rfl⟩⟩
theorem zS.nil{α:Type}{f I}:zS f I ([]:List α) (.slice none 0 0):=⟨none,0,rfl,Nat.le_refl _,fun h=>absurd rfl h⟩
theorem zU{α:Type}{l:List α}{k}(h:k<l.length):l≠[]:=fun e=>by rw[e]at h;simp at h
theorem Cj.join{N Q x y e I H}{ι:Type}(O:ι→Prop)(W:ι→Env)(hp:ι→Heap)(hl:ι→HL)(k2:∀i,O i→Cj N Q y (W i) (hp i) (hl i))
 (k1:(∀j e' Z H',O j→Sub (W j) e'→hp j=Z→hl j=H'→Ej N (Exit.then (y.wpIn N.F 0 N.P Q) Q) .normal e' Z H')→Cj N (Exit.then (y.wpIn N.F 0 N.P Q) Q) x e I H):Cj N Q (.seq x y) e I H:=
 Cj.seq (k1 fun j e' Z H' hj hs hI hH=>Ej.seq (by subst hI hH;exact Cj.weak hs (k2 j hj)))
theorem DN{α:Type}{f:α→List Value}{sz}(N:∀x,(f x).length=sz):∀l:List α,(l.flatMap f).length=l.length*sz
 |[]=>sI
 |a::r=>by rw[bG,dX,N a,DN N r,List.length_cons,Nat.add_mul];omega
theorem NH {α : Type} (f : α → List Value) l x : (l ++ [x]).flatMap f = l.flatMap f ++ f x := by simp
section
variable {cx:Cx} {Q:Qt} {e:Env} {I:Heap} {R:HL} {T:TypeId} {α:Type} {l:List α} {f:α→List Value} {sz n base:Nat} {g:Gs}
theorem b0Y{X:Heap→HL→Prop}(hf:∀x,(f x).length=sz)(O:0<sz)(W:BL base sz n (l.flatMap f) g)(hn:n=l.length)(hp:∀b o,base≤b→(∀N,Le I N→N b=some o→X N R)→X I ((b,o)::R))(k:∀N,Le I N→zS f N l (gV n g)→X N R):X I (gH T (l.flatMap f) g++R):=by
 subst hn;cases g with
 |none=>
  obtain⟨h1,h2⟩:=W;have:l=[]:=dG.1 h1;subst this;exact k I (dP _) zS.nil
 |some q=>
  obtain⟨b,c,sp⟩:=q;obtain⟨h1,h2,h3⟩:=W;have hc:l.length≤c:=by
   rw[DN hf]at h3;exact bZ (oM:l.length*sz≤c*sz) O
  exact hp b _ h1 fun N Z hb=>k N Z ⟨_,c,rfl,hc,fun _=>⟨b,0,_,T,_,sp,rfl,hb,rfl⟩⟩
theorem Cj.keepR{c}(W:∀x,(f x).length=sz)(N:0<sz)(Z:BL cx.w0.heap.size sz n (l.flatMap f) g)(hn:n=l.length)(k:∀O,Le I O→zS f O l (gV n g)→Cj cx Q c e O R):Cj cx Q c e I (gH T (l.flatMap f) g++R):=
 b0Y (X:=fun I H=>Cj cx Q c e I H) W N Z hn (fun _ _ hb k=>fB hb k) k
theorem Ej.keepR{x}(W:∀x,(f x).length=sz)(N:0<sz)(Z:BL cx.w0.heap.size sz n (l.flatMap f) g)(hn:n=l.length)(k:∀O,Le I O→zS f O l (gV n g)→Ej cx Q x e O R):Ej cx Q x e I (gH T (l.flatMap f) g++R):=
 b0Y (X:=fun I H=>Ej cx Q x e I H) W N Z hn (fun _ _ hb k=>Ej.persist hb k) k
theorem a4c n g:aY (gV n g)=true:=by
 cases g with
 |none=>rfl
 |some q=>obtain⟨b,c,sp⟩:=q;rfl
end
section
variable {cx:Cx} {o:Oper} {e:Env} {S:World→Prop}
theorem a1w{x y}{T E n c sz j:Nat}{b kl}(W:o.op= .slice T x none (some y) none)(Z:ev e x=some (.slice b n c))(hy:ev e y=some (.int kl (j:Int)))(hu:cx.P.underlying T=some (.slice E))(O:∀w,(sizeOf E).run cx.P w= .ok sz w)(hj:j≤c):
 BO cx o e S (.slice b j c):=by
 intro a w N _;have h1:(j:Int)≤c:=oM;cases b with
 |none=>simp[execOp,W,N.eval Z,N.eval hy,dV,eP,run_underlying hu,cO,run_sliceBound,h1,O]
 |some q=>
  simp[execOp,W,N.eval Z,N.eval hy,dV,eP,run_underlying hu,cO,run_sliceBound,h1,O,Addr.add]
end
theorem zS.take{α:Type}{f:α→List Value}{I:Heap}{l:List α}{p:Option Addr}{c:Nat}(h:zS f I l (.slice p l.length c)){m:Nat}(N:m≤l.length):zS f I (l.take m) (.slice p m c):=by
 obtain⟨_,_,O,_,W⟩:=h;cases O;refine⟨p,c,by rw[eY,dH N],by rw[eY];omega,fun Z=>?_⟩;have hl:l≠[]:=fun e=>Z (by rw[e];simp);obtain⟨b,o,cs,t,fr,sp,h1,h2,h3⟩:=W hl;refine⟨b,o,cs,t,fr,(l.drop m).flatMap f++sp,h1,h2,?_⟩;rw[h3,←cZ,←List.flatMap_append,List.take_append_drop]
theorem a8V{α:Type}(A G N:List α):(A++(N++G)).Perm (A++(G++N)):=List.Perm.append_left A aJ
theorem b1i{α:Type}{f}:∀{l:List α},(∀x∈l,(f x).all aY=true)→(l.flatMap f).all aY=true
 |[],_=>rfl
 |a::r,h=>by rw[bG,List.all_append,h a (.head _),b1i fun x N=>h x (.tail _ N)];rfl
theorem Src.row{P I H}{α:Type}{f:α→List Value}{sz:Nat}{l v}(O:∀x,(f x).length=sz)(h:zS f I l v)(h1:∀x∈l,(f x).all aY=true):Src P I H sz l.length v (l.flatMap f):=by
 obtain⟨p,c,rfl,_,W⟩:=h;cases l with
 |nil=>exact Src.nil
 |cons a r=>
  obtain⟨b,o,cs,t,fr,sp,rfl,h2,h3⟩:=W sI;have N:=DN O (a::r);exact Src.slice (yZ.LK h2) (by rw[h3,←N,fC]) N (b1i h1)
def WJ:HL→Heap→Heap
 |[],I=>I
 |(b,o)::r,I=>hput b o (WJ r I)
theorem ZG:∀{H:HL} {I:Heap},(H.map (·.1)).Nodup→∀p∈H,WJ H I p.1=some p.2
 |[],_,_,p,hp=>by cases hp
 |(b,o)::r,I,hn,p,hp=>by
  rw[bY,List.nodup_cons]at hn;unfold WJ hput;rcases dW.1 hp with e|e
  ·rw[e];simp
  have:p.1≠b:=fun g=>hn.1 (by rw[←g];exact bT (f:=(·.1)) e);rw[zD this];exact ZG hn.2 p e
theorem XA:∀{H:HL} {I:Heap} {b:Nat},b ∉ H.map (·.1)→WJ H I b=I b
 |[],_,_,_=>rfl
 |(c,o)::r,I,b,h=>by
  rw[bY,dW,not_or]at h;unfold WJ hput;rw[zD h.1];exact XA h.2
theorem b1p{H I}(O:∀p∈H,I p.1=none):Le I (WJ H I):=fun b o N=>by
 by_cases h:b∈H.map (·.1)
 ·obtain⟨p,W,rfl⟩:=aZ.1 h;rw[O p W]at N;cases N
 rw[XA h];exact N
def hless (H:HL) (J:Heap):Heap:=fun b=>if b∈H.map (·.1)then none else J b
theorem b7T{H J b}(h:b ∉ H.map (·.1)):hless H J b=J b:=zD h
theorem yY.borrow{P f args I B}{a0:Ending→Heap→HL→Prop}(h:yY P f args (WJ B I) [] a0):
 yY P f args I B (fun e I' H'=>∃J K,a0 e J K∧H'=B++K∧I'=hless B J∧∀p∈B,J p.1=some p.2):=by
 refine⟨h.1,fun w hw=>?_⟩;obtain⟨r1,r2,r3,r4⟩:=hw;have hr:Ready (WJ B I) [] w:=by
  unfold Ready;refine⟨fun b o O=>?_,(fun p N=>by cases N),List.Pairwise.nil,(fun p N=>by cases N)⟩
  by_cases W:b∈B.map (·.1)
  ·obtain⟨p,N,rfl⟩:=aZ.1 W;rw[ZG r3 p N]at O;cases O;exact r2 p N
  rw[XA W]at O;exact r1 b o O
 refine(h.2 w hr).mono ?_;rintro e w' ⟨J,K,Z,N⟩;have hJ:∀p∈B,J p.1=some p.2:=fun p N=>Z.le _ _ (ZG r3 p N);have a2:∀p∈B,p.1<w.heap.size:=fun p N=>by
  have:=r2 p N;rcases dA p.1 w.heap.size with g|g
  ·exact g
  rw[dK g]at this;cases this
 have a1:∀q∈K,q.1 ∉ B.map (·.1):=fun q hq W=>by
  obtain⟨p,N,he⟩:=aZ.1 W;have:=Z.dis q hq;rw[←he,hJ p N]at this;cases this
 refine⟨hless B J,B++K,⟨Z.os,Z.tape,Z.output,Z.size,fun b O _=>Z.frm b O sI,fun b o O=>?_,fun p N=>?_,?_,fun p N=>?_,fun p N=>?_,fun b O=>?_,fun b o O=>?_,a4V⟩,J,K,N,rfl,rfl,hJ⟩
 ·unfold hless at O
  split at O
  ·cases O
  exact Z.sub b o O
 ·rcases dJ.1 N with g|g
  ·exact Z.sub _ _ (hJ p g)
  exact Z.own p g
 ·rw[aW,aS];refine⟨r3,Z.nodup,fun x hx y hy he=>?_⟩;obtain⟨q,hq,rfl⟩:=aZ.1 hy;exact a1 q hq (he▸hx)
 ·unfold hless
  split
  ·rfl
  rename_i W
  rcases dJ.1 N with g|g
  ·exact absurd (bT g) W
  exact Z.dis p g
 ·rcases dJ.1 N with g|g
  ·exact .inl (bT g)
  rcases Z.new p g with k|k
  ·cases k
  exact .inr k
 ·unfold hless
  split
  ·rename_i W
   obtain⟨p,N,rfl⟩:=aZ.1 W;exact(r4 p N).symm
  rename_i W
  rw[Z.ifr b O,XA W]
 have W:b ∉ B.map (·.1):=fun W=>by
  obtain⟨p,N,rfl⟩:=aZ.1 W;rw[r4 p N]at O;cases O
 rw[b7T W];exact Z.le b o (by rw[XA W];exact O)
theorem yY.a8P{P f args I H}{N:Ending→Heap→HL→Prop}(W:Enters P f)(h:(H.map (·.1)).Nodup→(∀p∈H,I p.1=none)→yY P f args I H N):yY P f args I H N:=
 ⟨W,fun w O=>(h O.2.2.1 O.2.2.2).2 w O⟩
section
variable {cx:Cx} {Q:Qt} {e:Env} {I:Heap} {R:HL}
theorem YT{X:Heap→HL→Prop}{base}(O:∀I b o R,base≤b→(∀N,Le I N→N b=some o→X N R)→X I ((b,o)::R)):∀(B:HL) (I:Heap),(∀p∈B,base≤p.1)→(∀N,Le I N→(∀p∈B,N p.1=some p.2)→X N R)→X I (B++R)
 |[],I,_,k=>k I (dP _) fun p O=>by cases O
 |(b,o)::r,I,hb,k=>O I b o (r++R) (hb _ (.head _)) fun N Z hI=>YT O r N (fun p O=>hb p (.tail _ O)) fun I2 W a0=>k I2 (Z.trans W) fun p O=>by
  rcases dW.1 O with g|g
  ·rw[g];exact W _ _ hI
  exact a0 p g
theorem J.persists{N l} B (O:∀p∈B,cx.w0.heap.size≤p.1)(k:∀W,Le I W→(∀p∈B,W p.1=some p.2)→J cx Q N l e W R):J cx Q N l e I (B++R):=
 YT (X:=fun I H=>J cx Q N l e I H) (fun _ _ _ _ O k=>J.persist O k) B I O k
end
def PU {α:Type} (T:TypeId) (f:α→List Value) (I:Heap) (l:List α) (v:Value):Prop:=
 ∃p c,v= .slice p l.length c∧l.length≤c∧(l≠[]→∃b sp,p=some ⟨b,0,none⟩∧I b=some (yX T (l.flatMap f++sp)))
theorem PU.mono{α:Type}{T:TypeId}{f:α→List Value}{I N:Heap}{l:List α}{v:Value}(h:PU T f I l v)(O:Le I N):PU T f N l v:=
 let ⟨p,c,h1,h2,h3⟩:=h;⟨p,c,h1,h2,fun W=>let ⟨b,sp,Z,h5⟩:=h3 W;⟨b,sp,Z,O _ _ h5⟩⟩
theorem PU.row{α:Type}{T:TypeId}{f:α→List Value}{I:Heap}{l:List α}{v:Value}(h:PU T f I l v):zS f I l v:=
 let ⟨p,c,h1,h2,h3⟩:=h;⟨p,c,h1,h2,fun N=>let ⟨b,sp,O,W⟩:=h3 N;⟨b,0,_,T,_,sp,O,W,rfl⟩⟩
theorem PU.nil{α:Type}{T f I}:PU T f I ([]:List α) (.slice none 0 0):=⟨none,0,rfl,Nat.le_refl _,fun h=>absurd rfl h⟩
section
variable {cx:Cx} {Q:Qt} {e:Env} {I:Heap} {R:HL} {T:TypeId} {α:Type} {l:List α} {f:α→List Value} {sz n base:Nat} {g:Gs}
theorem c1F{X:Heap→HL→Prop}(hf:∀x,(f x).length=sz)(O:0<sz)(W:BL base sz n (l.flatMap f) g)(hn:n=l.length)(hp:∀b o,base≤b→(∀N,Le I N→N b=some o→X N R)→X I ((b,o)::R))(k:∀N,Le I N→PU T f N l (gV n g)→X N R):X I (gH T (l.flatMap f) g++R):=by
 subst hn;cases g with
 |none=>
  obtain⟨h1,h2⟩:=W;have:l=[]:=dG.1 h1;subst this;exact k I (dP _) PU.nil
 |some q=>
  obtain⟨b,c,sp⟩:=q;obtain⟨h1,h2,h3⟩:=W;have hc:l.length≤c:=by
   rw[DN hf]at h3;exact bZ (oM:l.length*sz≤c*sz) O
  exact hp b _ h1 fun N Z hb=>k N Z ⟨_,c,rfl,hc,fun _=>⟨b,sp,rfl,hb⟩⟩
theorem Cj.c6c{c}(W:∀x,(f x).length=sz)(N:0<sz)(Z:BL cx.w0.heap.size sz n (l.flatMap f) g)(hn:n=l.length)(k:∀O,Le I O→PU T f O l (gV n g)→Cj cx Q c e O R):Cj cx Q c e I (gH T (l.flatMap f) g++R):=
 c1F (X:=fun I H=>Cj cx Q c e I H) W N Z hn (fun _ _ hb k=>fB hb k) k
end
theorem St.c6a{w0 w D N I0 I H}(h:St w0 D I0 I H w)(O:∀b,b∈D↔b∈N):St w0 N I0 I H w:=
 ⟨h.os,h.tape,h.output,h.size,fun b W Z=>h.frm b W (fun g=>Z ((O b).1 g)),h.sub,h.own,h.nodup,h.dis,fun p hp=>(h.new p hp).imp (O p.1).1 id,h.ifr,h.le,h.drw⟩
theorem yY.perm{P f args I H H1}{N:Ending→Heap→HL→Prop}(O:H1.Perm H)(h:yY P f args I H1 N):yY P f args I H N:=
 ⟨h.1,fun w W=>by
  obtain⟨Z,r2,r3,r4⟩:=W;have hr:Ready I H1 w:=⟨Z,fun p g=>r2 p (O.mem_iff.1 g),(O.map _).nodup_iff.2 r3,fun p g=>r4 p (O.mem_iff.1 g)⟩;refine(h.2 w hr).mono ?_;rintro e w' ⟨I',K,hk,hq⟩;exact⟨I',K,hk.c6a (fun b=>(O.map _).mem_iff),hq⟩⟩
theorem yY.leave{P f args I H}{W N:Ending→Heap→HL→Prop}(h:yY P f args I H W)(hp:∀e O H',Le I O→W e O H'→∃K S,(K++S).Perm H'∧N e O K):yY P f args I H N:=
 ⟨h.1,fun w hw=>(h.2 w hw).mono fun e w' ⟨O,H',Z,hq⟩=>by
  obtain⟨K,S,hk,a0⟩:=hp e O H' Z.le hq;exact⟨O,K,(Z.perm hk).sublist (List.sublist_append_left K S),a0⟩⟩
section
variable {cx:Cx} {Q:Qt} {o:Oper} {e:Env} {I:Heap} {H:HL} {C:Ct}
theorem NJ{H1} R {d f fo xs ts fst cap vs}{W:Ending→Heap→HL→Prop}(hH:H=R++H1)
 (ho:o.op= .call ⟨.value fo,xs.toArray,ts⟩)(hd:o.dst=some d)(hn:aH d cx.n=true)(hf:ev e fo=some (.func (.func f) fst.toArray cap.toArray))(hx:evs e xs=some vs)
 (hs:yY cx.P f (fst++vs++cap) I H1 W)
 (k:∀v O N,Le I O→W (.returned v) O N→C ((d,v)::e) O (R++N))
 (kp:∀ch O N,Le I O→W (.panicked ch) O N→Ej cx Q (.panic ch) e O (R++N))
 (ko:∀O N,¬W .outgrown O N):DJ cx Q o e I H C:=by
 subst hH;refine DJ.perm (H':=H1++R) aJ fun K hK=>?_
 exact zM (C:=fun e' O H'=>∃N,H'=N++R∧C e' O (R++N)) ho hd hn hf hx hs (fun v O N Z hp=>⟨N,rfl,k v O N Z hp⟩) (fun ch O N Z hp=>Ej.perm aJ (kp ch O N Z hp)) ko K
  fun e' O H' ⟨N,hH,hC⟩ a w ha hs=>hK e' O (R++N) hC a w ha (by subst hH;exact hs.perm aJ)
end
section
variable {cx:Cx} {Q:Qt} {o:Oper} {e:Env} {I:Heap} {H:HL} {C:Ct}
theorem b0y{α:Type}[BEq α]{kv:α→Value}{a}{T U:Nat}{m x:Operand}{K E}{O:Value}(ho:o.op= .call ⟨.builtin .delete,#[m,x],#[T,U]⟩)(hd:o.dst=none)(hm:ev e m=some (.map none))(hx:ev e x=some O)(W:O=kv a)(hT:cx.P.underlying T=some (.map K E))(hK:ET cx.P K kv)(kk:C e I H):DJ cx Q o e I H C:=by
 intro _ Z w0 w N hs;unfold aU;subst W;have:(execOp w0.eval o).run cx.P w= .ok (.value (.tuple #[])) w:=by
  simp[execOp,ho,resolve,invoke,builtin,N.eval hm,N.eval hx,Builtin.delete_,run_underlying hT,hK.2.1]
 rw[this];simp only[aI,hd];exact Z _ _ _ kk _ _ N.WE hs
