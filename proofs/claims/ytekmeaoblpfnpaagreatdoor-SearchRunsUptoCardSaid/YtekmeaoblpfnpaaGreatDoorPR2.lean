/-
  Own texts on the laws of the seat, joined: the logic, and contracts of functions. Conditions: none.
-/
import Derived.Test.YtekmeaoblpfnpaaGreatDoorPR1
import Derived.Laws.RangeAny
import Derived.Scope
import Derived.Below
import Derived.Lib.Builder
import Derived.Lib.UnsafeStr
import Derived.Laws.Externs
import Derived.Recover
import Derived.Laws.MakeOwn
import Derived.LoopN
import Derived.RangeFuncRecord
import Derived.Sort.Walk0
import Derived.Sort.Grow
import Derived.Sort.EncStr
set_option maxRecDepth 100000
set_option maxHeartbeats 40000000
open Go.Result renaming andThen_ok -> aA,andThen -> dP
open Go.Sem renaming run_bind -> aB,run_pure -> aG,run -> dN
open List renaming mem_append_left -> aC,mem_of_getElem? -> aF,perm_append_comm -> aJ,nodup_append -> aQ,getElem?_append_left -> aS,getElem?_eq_some_iff -> aT,map_append -> aW,mem_map -> aZ,getElem?_append_right -> bD,flatMap_cons -> bG,map_toArray -> bM,mem_map_of_mem -> bT,replicate -> bU,map_cons -> bY,append_assoc -> cZ,perm_middle -> dD,length_eq_zero_iff -> dG,mem_append -> dI,sublist_cons_self -> dL,mem_cons -> dU,length_append -> dV,getElem?_drop -> dY,getElem?_set -> dZ,getElem?_map -> eF,not_mem_nil -> eP,length_take -> eU,take_left -> fB,drop_drop -> fC
open Nat renaming blt -> aH,le_of_mul_le_mul_right -> bZ,lt_or_ge -> dA,min_eq_left -> eX,add_assoc -> fF
open Go.Oper renaming upon -> aI,wp -> aU
open Go.Sx.World renaming block -> aK
open Go.Instr renaming checkKey -> aN,findKey -> aP,sameBits -> aV,findNow -> bJ,sameNow -> bK,sliceBounds -> cO,findAsking -> dF,mapUpdate -> dH,sliceAt -> dS,keyThatStays -> dW,lookup -> dX,slice -> eG
open Bool renaming false_eq_true -> aO
open Go.Fence renaming wide -> aX
open Go.Value renaming oneCell' -> aY,func -> eY
open Go.Deferred renaming ofValue -> bC
open Option renaming isSome_iff_exists -> bF,map_eq_some_iff -> bH
open Go.Proofs renaming bytesLess_eq -> bI
open Go.Op renaming equalIn -> bP,stringOp -> eH
open Go.Addr renaming add_lit -> bQ
open Array renaming ext_getElem? -> bV,getElem?_eq_none -> dJ,getElem?_modify -> dQ
open Go.Question renaming appendCap -> bW
open Go.Sx.St renaming start -> dB
open Go.Utf8 renaming decode -> dK
open Go.Sx.Le renaming refl -> dM
open Go.Sx.lS renaming z -> dR
open Go.Sx.Cj renaming persist -> fA
open Prod.mk renaming injEq -> fD
open Go.World renaming frozen? -> fE
open Go.Extern.AbiNoEscape renaming same -> fG
open Go.IntKind renaming i32 -> fH
namespace Go.Sx
open Go Go.RowKit
theorem St.below{w w' I}(M:Ready I [] w)(h:Below w.heap.size w w'):St w [] I I [] w':=by
 have N:∀{b:Nat} {o':Obj},w.heap[b]?=some o'→b<w.heap.size:=fun {b o'} A=>by
  rcases dA b w.heap.size with G|G
  ·exact G
  simp[dJ G]at A
 exact⟨h.os,h.tape,h.output,h.size,fun b A _=>h.block b A,fun b o A=>by rw[h.block b (N (M.1 b o A))];exact M.1 b o A,sI,sI,sI,sI,fun _ _=>rfl,dM _,WU⟩
theorem Pure.of_below{P f args I v}(G:Enters P f)(h:∀w,Ready I [] w→Calls P f args.toArray w fun e w'=>e= .returned v∧Below w.heap.size w w'):Pure P f args I v:=
 ⟨G,fun w A=>(h w A).mono fun _ _ ⟨h1,h2⟩=>⟨I,[],St.below A h2,h1,rfl,rfl⟩⟩
theorem Pure.of_same{P f args I v}(A:Enters P f)(h:∀w,Ready I [] w→Calls P f args.toArray w fun e w'=>e= .returned v∧w'=w):Pure P f args I v:=
 Pure.of_below A fun w G=>(h w G).mono fun _ _ ⟨h1,h2⟩=>⟨h1,h2▸Below.refl _ _⟩
theorem Enters.of{P f fn}(h:P.funcs[f]?=some fn)(h1:fn.name≠ "runtime.NumGoroutine")(h2:fn.body.isNone=false):Enters P f:=⟨fn,h,h1,h2⟩
section
variable {cx:Cx} {Q:Qt} {e:Env} {I:Heap} {H:HL} {o:Oper} {C:Ct} {S:World→Prop}
theorem Cj.scope{c}(h:Cj cx (Exit.noGoto Q) c e I H)(A:cx.rd=none:=by rfl):Cj cx Q (.scope c) e I H:=Cj.of_wp A fun _ _ G M=>wp_scope_straight (h.wp A G M)
theorem Ej.b3J(h:Ej cx Q .ret e I H):Ej cx (Exit.noGoto Q) .ret e I H:=h
theorem MF{T d x s}(M:o.op= .range T x)(N:o.dst=some d)(O:aH d cx.n=true)(S:ev e x=some (.string s))(W:cx.P.underlying T=some .string)
 (k:∀b,cx.w0.heap.size≤b→C ((d,ptr b 0)::e) I ((b,.stringIter s 0)::H)):mF cx Q o e I H C:=by
 intro K Z a w A G;unfold aU;have:(execOp a.eval o).run cx.P w= .ok (.value (ptr w.heap.size 0)) { w with heap:=w.heap.push (.stringIter s 0) }:=by
  simp only[execOp,M,A.eval S,aB,run_range_string w T s W,aA,aG];rfl
 rw[this];simp only[aI,N];exact Z _ _ _ (k _ G.size) _ _ (A.put O) (G.alloc _)
theorem TS{d b A x s H'} i (S:o.op= .next x true)(W:o.dst=some d)(Z:aH d cx.n=true)(hx:ev e x=some (ptr b 0))(G:H[i]?=some (b,.stringIter s A))(hp:A<s.size)
 (M:lS H i (b,.stringIter s (A+(dK s A).2)) H')(k:C ((d,.tuple #[.bool true,.int .i64 A,.int .i32 (dK s A).1])::e) I H'):mF cx Q o e I H C:=by
 intro K hK a w N O;unfold aU;have hb:=O.own _ (aF G);have:(execOp a.eval o).run cx.P w= .ok (.value (.tuple #[.bool true,.int .i64 A,.int .i32 (dK s A).1])) (aK w b (.stringIter s (A+(dK s A).2))):=by
  simp only[execOp,S,N.eval hx,Instr.next,getObj,setObj,aB,dN,hb,dP,hp,if_true];simp[goInt,aK]
 rw[this];simp only[aI,W];exact hK _ _ _ k _ _ (N.put Z) (O.block G M)
theorem EP{d b A x s}(i:Nat)(N:o.op= .next x true)(O:o.dst=some d)(S:aH d cx.n=true)(W:ev e x=some (ptr b 0))(Z:H[i]?=some (b,.stringIter s A))(hp:¬A<s.size)
 (k:C ((d,.tuple #[.bool false])::e) I H):mF cx Q o e I H C:=by
 intro K hK a w G M;unfold aU;have hb:=M.own _ (aF Z);have:(execOp a.eval o).run cx.P w= .ok (.value (.tuple #[.bool false])) w:=by
  simp[execOp,N,G.eval W,Instr.next,getObj,aB,dN,hb,dP,hp]
 rw[this];simp only[aI,O];exact hK _ _ _ k _ _ (G.put S) M
theorem a7G{A T x k r}(G:o.op= .convert A T x)(M:ev e x=some (.int k r))(N:cx.P.underlying A=some (.int k))(O:cx.P.underlying T=some .string):kX cx o e S (str (Utf8.encode r).data.toList):=by
 intro a w Q _;simp[execOp,G,Q.eval M,convert,run_underlying N,run_underlying O,str,Conv.intToString]
end
end Go.Sx
namespace Go.Sx
open Go
theorem EC{w:World}{b cs t fr}(h:w.heap[b]?=some (.cells cs t fr)):w.shape? b=some (t,cs.size):=by simp[World.shape?,h]
theorem MV n g:(gV n g).cells=[gV n g].toArray:=by cases g<;>rfl
theorem a3l n g:[gV n g].all aY=true:=by cases g<;>rfl
section
variable {cx:Cx} {Q:Qt} {e:Env} {I:Heap} {H:HL} {o:Oper} {C:Ct} {S:World→Prop}
theorem a7O{P w T A j} p (G:P.underlying T=some (.pointer A))(_M:P.info? A=some j):(binOp .eql T (.pointer p) (.pointer none)).run P w= .ok (.bool p.isNone) w:=by
 have h:∀d:Nat,(bP (d+1) T (.pointer p) (.pointer none)).run P w= .ok p.isNone w:=fun d=>by
  cases p<;>simp[bP,run_underlying G,sizeOf,typeInfo,samePointer]
 simp only[binOp];simp[Op.equal,Op.maxDepth,h 9999]
theorem a9X{x y T U A} p (N:o.op= .binOp .eql T x y U)(O:ev e x=some (.pointer p))(Q:ev e y=some (.pointer none))(W:cx.P.underlying T=some (.pointer A))(G:(cx.P.info? A).isSome=true):kX cx o e S (.bool p.isNone):=by
 intro a w M _;obtain⟨j,Z⟩:=bF.1 G;have hb:=a7O (P:=cx.P) (w:=w) p W Z;have hg:eqGuard .eql T x y (.pointer p) (.pointer none)=pure ():=rfl;simp[execOp,N,M.eval O,M.eval Q,hb,hg]
theorem a7I{x y T U A b off}(N:o.op= .binOp .neq T x y U)(O:ev e x=some (ptr b off))(Q:ev e y=some (ptr b off))(W:cx.P.underlying T=some (.pointer A))(G:(cx.P.info? A).isSome=true):kX cx o e S (.bool false):=by
 intro a w M _;obtain⟨j,Z⟩:=bF.1 G;have hb:=Lib.run_neq_ptr_same (P:=cx.P) w ⟨b,off,none⟩ W Z;have hg:eqGuard .neq T x y (ptr b off) (ptr b off)=pure ():=rfl;simp[execOp,N,M.eval O,M.eval Q,hb,hg]
theorem a5L{x G T M b off} z {cs:List Value}{t fr}(Q:o.op= .convert G T x)(W:ev e x=some (ptr b off))(Z:cx.P.underlying G=some (.pointer M))(hT:cx.P.underlying T=some .unsafePointer)(N:(cx.P.info? M).map (·.size)=some (z+1))
 (hb:jR S b (.cells cs.toArray t fr))(A:off<cs.length):kX cx o e S (ptr b off):=by
 intro a w ha hs;obtain⟨j,hj,O⟩:=bH.1 N;have O:j.size≠0:=oM;have h:=Lib.run_to_unsafe (P:=cx.P) (w:=w) ⟨b,off,none⟩ Z hT hj O (EC (hb w hs)) (by simpa using A);simp[execOp,Q,ha.eval W,h]
theorem a2G{x G T A b off}{cs:List Value}{t fr}(N:o.op= .convert G T x)(O:ev e x=some (ptr b off))(Q:cx.P.underlying G=some .unsafePointer)(W:cx.P.underlying T=some (.pointer A))(M:(cx.P.info? A).isSome=true)
 (Z:jR S b (.cells cs.toArray t fr))(hl:liesAt cx.P cx.P.depth t (cs.length / cx.P.cellsOf t) off A 1=true):kX cx o e S (ptr b off):=by
 intro a w ha hs;obtain⟨j,hj⟩:=bF.1 M;have h:=Lib.run_from_unsafe (P:=cx.P) (w:=w) ⟨b,off,none⟩ Q W hj (EC (Z w hs)) (by simpa using hl);simp[execOp,N,ha.eval O,h]
theorem a5y{f fn A x ts v}(M:o.op= .call ⟨.value A,#[x],ts⟩)(N:ev e A=some (.func (.func f) #[] #[]))(O:ev e x=some v)(h1:cx.P.funcs[f]?=some fn)(h2:(fn.name == "runtime.NumGoroutine")=false)(h3:fn.body.isNone=true)
 (Q:Extern.findNext fn=none)(W:Extern.find fn=some fG):kX cx o e S v:=by
 intro a w G _;have h:=run_callFunc_extern h1 h2 h3 Q W #[v] w;simp[execOp,M,resolve,invoke,G.eval N,G.eval O,h,bC,Lib.run_noEscape,dP]
theorem a2U{x T b off n c}(A:o.op= .call ⟨.builtin .unsafeSliceData,#[x],#[T]⟩)(G:ev e x=some (.slice (some ⟨b,off,none⟩) n c))(M:c≠0):kX cx o e S (ptr b off):=by
 intro a w N _;have h:=fun O=>Lib.run_unsafeSliceData_row (P:=cx.P) (w:=w) #[T] O ⟨b,off,none⟩ n c M;simp[execOp,A,resolve,invoke,N.eval G,builtin,h]
theorem XB{x T n c}(A:o.op= .call ⟨.builtin .unsafeSliceData,#[x],#[T]⟩)(G:ev e x=some (.slice none n c)):kX cx o e S (.pointer none):=by
 intro a w M _;have h:=fun N=>Lib.run_unsafeSliceData_nil (P:=cx.P) (w:=w) #[T] N n c;simp[execOp,A,resolve,invoke,M.eval G,builtin,h]
theorem PL{x y p T U}(G:o.op= .call ⟨.builtin .unsafeString,#[x,y],#[T,U]⟩)(M:ev e x=some (.pointer p))(N:ev e y=some (i64 0)):kX cx o e S (str []):=by
 intro a w A _;have h:=fun O=>Lib.run_unsafeString_none (P:=cx.P) (w:=w) T U O p;simp[execOp,G,resolve,invoke,A.eval M,A.eval N,builtin,h];rfl
theorem XL{x y T U E d b} i l {cs H'}(ho:o.op= .call ⟨.builtin .unsafeString,#[x,y],#[T,U]⟩)(hd:o.dst=some d)(hn:aH d cx.n=true)(hx:ev e x=some (ptr b 0))(hy:ev e y=some (i64 l.length))
 (hT:cx.P.underlying T=some (.pointer E))(hE:cx.P.cellsOf E=1)(A:H[i]?=some (b,jM E (mQ l++cs)))(h0:l≠[])(O:l.length≤9223372036854775807)(S:lS H i (b,.cells (mQ l++cs).toArray E (0,l.length)) H')(k:C ((d,str l)::e) I H'):mF cx Q o e I H C:=by
 intro K hK a w G M;unfold aU;have N:=M.own _ (aF A);have h:=fun ty=>Lib.run_unsafeString_row (P:=cx.P) (w:=w) T U ty E hT hE b (mQ l++cs).length (by rw[EC N];simp) l h0 (by rw[dV,wX];omega) O (fun j x W=>by
  rw[bQ];refine cell_of_heap N ?_;rw[aS (by rw[wX,Nat.zero_add];exact(aT.1 W).1)];simp[mQ,W])
 have Z:w.freeze ⟨b,0,none⟩ l.length=aK w b (.cells (mQ l++cs).toArray E (0,l.length)):=by
  have hl:l.length≠0:=by simpa using h0
  unfold World.freeze aK;rw[zD hl]
  congr 1
  apply bV
  intro k;rw[dQ,Array.getElem?_setIfInBounds]
  by_cases hk:b=k
  ·subst hk;have a0:b<w.heap.size:=M.lt (aF A);rw[zF rfl,zF rfl,zF a0,show w.heap[b]?=_ from N];simp[jM]
  simp[hk]
 have:(execOp a.eval o).run cx.P w= .ok (.value (str l)) (aK w b (.cells (mQ l++cs).toArray E (0,l.length))):=by
  simp[execOp,ho,resolve,invoke,G.eval hx,G.eval hy,builtin,h,Z,str]
 rw[this];simp only[aI,hd];exact hK _ _ _ k _ _ (G.put hn) (M.block A S)
end
section
variable {cx:Cx} {Q:Qt} {e:Env} {I:Heap} {H:HL} {o:Oper} {C:Ct}
end
theorem run_checkKey{P K}(A:P.underlying K=some .string) b v w:(aN b 10000 K (str v)).run P w= .ok () w:=by
 have h:∀n,(aN b (n+1) K (str v)).run P w= .ok () w:=fun n=>by simp[aN,run_underlying A,str]
 exact h 9999
section
variable {cx:Cx} {Q:Qt} {e:Env} {I:Heap} {H:HL} {o:Oper} {C:Ct} {S:World→Prop}
theorem kS{T d}(G:o.op= .makeMap T none)(M:o.dst=some d)(N:aH d cx.n=true)(k:∀b,cx.w0.heap.size≤b→C ((d,.map (some b))::e) I ((b,.map #[] 0)::H)):mF cx Q o e I H C:=by
 intro K O a w S A;unfold aU;have:(execOp a.eval o).run cx.P w= .ok (.value (.map (some w.heap.size))) { w with heap:=w.heap.push (.map #[] 0) }:=by
  simp[execOp,G,Instr.makeMap,newObj,dN]
 rw[this];simp only[aI,M];exact O _ _ _ (k _ A.size) _ _ (S.put N) (A.alloc _)
end
def NR (P:Program) (f:FuncId) (args:List Value) (u:FrameMode) (I:Heap) (H:HL) (post:FrameMode→Heap→HL→Prop):Prop:=
 Enters P f∧∀w,Ready I H w→CallsD P f args.toArray u w fun e u' w'=>(∃v,e= .returned v)∧∃I' H',St w (H.map (·.1)) I I' H' w'∧post u' I' H'
theorem jO.b1K{P f fn c args I H}{A:Ending→Heap→HL→Prop}(N:P.funcs[f]?=some fn)(O:fn.body=some c)(M:fn.name≠ "runtime.NumGoroutine")
 (Q:args.length≤fn.ntmps)
 (h:∀w0,Ready I H w0→Cj ⟨P,fn.ntmps,w0,H.map (·.1),I,[],none⟩ (bodyPostD P fn (RR w0 (H.map (·.1)) I A)) c (uQ 0 args) I H):jO P f args I H A:=by
 refine⟨⟨fn,N,M,by simp[O]⟩,fun w G=>?_⟩;refine calls_of_wp_defers N O ?_;exact(h w G).wp rfl (Has.start args fn.ntmps Q) (dB w I H G.1 G.2.1 G.2.2.1 G.2.2.2)
section
variable {cx:Cx} {Q:Qt} {e:Env} {I:Heap} {H:HL} {o:Oper} {C:Ct}
theorem J.defer{G:Array Oper}{l:List Oper}{f:Nat}{M:Operand}{xs:List Operand}{ts:Array TypeId}{fst cap vs:List Value}(S:o.guard=none)(W:o.op= .defer ⟨.value M,xs.toArray,ts⟩)(Z:o.dst=none)
 (hf:ev e M=some (.func (.func f) fst.toArray cap.toArray))(hx:evs e xs=some vs)
 (k:J { cx with ds:=⟨.fn (.func f) cap.toArray,(fst++vs).toArray⟩::cx.ds } Q G l e I H)(N:cx.rd=none:=by rfl):J cx Q G (o::l) e I H:=by
 intro a w A hs;refine wpListIn_plain S fun K hK=>WV (.inl N) ?_;unfold aU;have hr:(execOp a.eval o).run cx.P w= .ok (.defer ⟨.fn (.func f) cap.toArray,(fst++vs).toArray⟩) w:=by
  have O:xs.toArray.map a.eval=vs.toArray:=by rw[bM,A.CP hx]
  simp[execOp,W,resolve,O,A.eval hf,bC]
 rw[hr];simp only[aI,Z];exact hK _ _ (k _ _ ⟨A.size,by simp[Act.put,A.defs],fun t v h=>A.get t v h⟩ hs)
def a8C (cx:Cx) (fn:Func) (post:Ending→Heap→HL→Prop) (e:Env) (I:Heap) (H:HL):Prop:=
 ∀a w,Has a cx.n e cx.ds→St cx.w0 cx.D cx.I0 I H w→∃v,(results fn a.tmps).run cx.P w= .ok v w∧RR cx.w0 cx.D cx.I0 post (.returned v) w
theorem XO{P fn tmps}{R:Ending→World→Prop}{f cap vs u w w0 D I0 H1 R1}{M:FrameMode→Heap→HL→Prop}(hu:u≠ .run)
 (Z:NR P f (vs++cap) u I H1 M)(A:St w0 D I0 I (H1++R1) w){ds}
 (k:∀S N G w',Le I N→M S N G→St w0 D I0 N (G++R1) w'→Leaves P fn tmps R ds (settle S) w'):
 Leaves P fn tmps R (⟨.fn (.func f) cap.toArray,vs.toArray⟩::ds) u w:=by
 refine leaves_cons (f:=f) (args:=(vs++cap).toArray) hu (by have h:=wF Z.1 (vs++cap).toArray w;simpa[invoke]using h) ?_;have O:Ready I H1 w:=⟨A.sub,fun p Q=>A.own p (aC _ Q),by
  have:=A.nodup;rw[aW,aQ]at this;exact this.1,fun p Q=>A.dis p (aC _ Q)⟩
 refine(Z.2 w O).mono ?_;rintro _ S w' ⟨⟨v,rfl⟩,N,G,W,Q⟩;exact k S N G w' W.le Q (A.call W)
end
def Rj (cx:Cx) (Q:Qt) (c:Code) (n:Nat) (e:Env) (I:Heap) (H:HL):Prop:=∀a w,Has a cx.n e cx.ds→St cx.w0 cx.D cx.I0 I H w→Code.rounds cx.P c Q n a w
section
variable {cx:Cx} {Q:Qt} {e:Env} {I:Heap} {H:HL} {o:Oper} {C:Ct} {S:World→Prop}
theorem Cj.rounds n {c}(h:Rj cx Q c n e I H)(A:cx.rd=none:=by rfl):Cj cx Q (.loop c) e I H:=Cj.of_wp A fun a w G M=>wp_loop_rounds n (h a w G M)
theorem Rj.succ{c n}(h:Cj cx (Exit.then (Code.rounds cx.P c Q n) Q) c e I H)(A:cx.rd=none:=by rfl):Rj cx Q c (n+1) e I H:=fun _ _ G M=>h.wp A G M
theorem Ej.rounds{c n}(h:Rj cx Q c n e I H):Ej cx (Exit.then (Code.rounds cx.P c Q n) Q) .normal e I H:=fun a w A G=>h a w A G
theorem mD{x y T E b off n sz off' k i}(N:o.op= .indexAddr T x y)(O:ev e x=some (ptr b off))(Q:ev e y=some (.int k i))
 (W:cx.P.underlying T=some (.array n E))(G:∀w,(sizeOf E).run cx.P w= .ok sz w)(h0:0≤i)(h1:i<n)(A:off+i.toNat*sz=off'):kX cx o e S (ptr b off'):=by
 intro a w M _;subst A;simp[execOp,N,M.eval O,M.eval Q,Instr.indexAt,Instr.sureAddr,asIntOf,run_underlying W,h0,h1,G,bQ]
theorem RI{P w T E n c} p (A:P.underlying T=some (.slice E)):(binOp .neq T (.slice p n c) (.slice none 0 0)).run P w= .ok (.bool p.isSome) w∧(binOp .eql T (.slice p n c) (.slice none 0 0)).run P w= .ok (.bool p.isNone) w:=by
 have h1:∀d:Nat,(bP (d+1) T (.slice p n c) (.slice none 0 0)).run P w= .ok p.isNone w:=fun d=>by cases p<;>simp[bP,run_underlying A]
 simp only[binOp];cases p<;>simp[Op.equal,Op.maxDepth,h1 9999]
theorem a5I{x y T U E n c} p (G:o.op= .binOp .neq T x y U)(M:ev e x=some (.slice p n c))(N:ev e y=some (.slice none 0 0))(O:cx.P.underlying T=some (.slice E)):kX cx o e S (.bool p.isSome):=by
 intro a w A _;have Q:=(RI (P:=cx.P) (w:=w) (n:=n) (c:=c) p O).1;have W:eqGuard .neq T x y (.slice p n c) (.slice none 0 0)=pure ():=rfl;simp[execOp,G,A.eval M,A.eval N,Q,W]
theorem a5A{x y T U E n c} p (G:o.op= .binOp .eql T x y U)(M:ev e x=some (.slice p n c))(N:ev e y=some (.slice none 0 0))(O:cx.P.underlying T=some (.slice E)):kX cx o e S (.bool p.isNone):=by
 intro a w A _;have Q:=(RI (P:=cx.P) (w:=w) (n:=n) (c:=c) p O).2;have W:eqGuard .eql T x y (.slice p n c) (.slice none 0 0)=pure ():=rfl;simp[execOp,G,A.eval M,A.eval N,Q,W]
theorem made1 z c:madeCells #[z] c=(bU c z).toArray:=by
 apply bV
 intro i;unfold madeCells
 by_cases h:i<c
 ·simp[h,Nat.mod_one]
 simp[h]
theorem QU{T E d by1 n c:Nat}{x y kl M z}(Z:o.op= .makeSlice T x y)(hd:o.dst=some d)(hn:aH d cx.n=true)(hx:ev e x=some (.int kl (n:Int)))(hy:ev e y=some (.int M (c:Int)))
 (hu:cx.P.underlying T=some (.slice E))(N:(cx.P.info? E).map (fun i=>(i.bytes,i.size,i.zero))=some (by1,1,some z))(O:z.cells= #[z])(a0:n≤c)(hb:by1*c≤281474976710656)(a1:c≤9223372036854775807)
 (k:∀b,cx.w0.heap.size≤b→C ((d,.slice (some ⟨b,0,none⟩) n c)::e) I ((b,jM E (bU c z))::H)):mF cx Q o e I H C:=by
 intro K hK a w G S;unfold aU;obtain⟨i,hi,A⟩:=bH.1 N;simp only[fD]at A;obtain⟨h1,h2,h3⟩:=A;have W:(i.bytes:Int)*(c:Int)≤281474976710656:=by
  have h:((by1*c:Nat):Int)≤281474976710656:=oM;rw[h1]
  rwa [Int.natCast_mul]at h
 have hr:=run_make (P:=cx.P) w T E i z hu hi h3 kl M n c oM oM W oM;have:(execOp a.eval o).run cx.P w= .ok (.value (.slice (some ⟨w.heap.size,0,none⟩) n c)) (w.alloc (jM E (bU c z))):=by
  simp[execOp,Z,G.eval hx,G.eval hy,hr,h2,O,made1,jM]
 rw[this];simp only[aI,hd];exact hK _ _ _ (k _ S.size) _ _ (G.put hn) (S.alloc _)
theorem a4z{x y}{T E b off n c sz j:Nat}{kl}(N:o.op= .slice T x (some y) none none)(O:ev e x=some (.slice (some ⟨b,off,none⟩) n c))(Q:ev e y=some (.int kl (j:Int)))(W:cx.P.underlying T=some (.slice E))(A:∀w,(sizeOf E).run cx.P w= .ok sz w)(Z:j≤n)(hc:j<c):
 kX cx o e S (.slice (some ⟨b,off+j*sz,none⟩) (n-j) (c-j)):=by
 intro a w G _;have M:¬c=j:=oM;have h1:(j:Int)≤n:=oM;simp[execOp,N,G.eval O,G.eval Q,dS,eG,run_underlying W,cO,run_sliceBound,h1,A,M,bQ]
theorem b5t{x y T U E d b off n c m W} i {cs A ys H'}(ho:o.op= .call ⟨.builtin .copy,#[x,y],#[T,U]⟩)(hd:o.dst=some d)(hn:aH d cx.n=true)(hx:ev e x=some (.slice (some ⟨b,off,none⟩) n c))(hy:ev e y=some W)
 (N:cx.P.underlying T=some (.slice E))(Z:∀w,(sizeOf E).run cx.P w= .ok 1 w)(a0:Src cx.P I H 1 m W ys)(a1:m≤n)(hH:H[i]?=some (b,jM E cs))(M:oD cs off ys A)(a2:lS H i (b,jM E A) H')
 (k:C ((d,i64 m)::e) I H'):mF cx Q o e I H C:=by
 intro K hK a w O G;unfold aU;obtain⟨_,a3,a4,a5⟩:=a0;have hb:=G.own _ (aF hH);have a6:=rC (P:=cx.P) (t:=E) ys 0 w cs hb (.inl rfl) M.1 (fun u N=>(List.all_eq_true.1 a3) u N) A M;have S:Nat.min m n=m:=eX a1;have:(execOp a.eval o).run cx.P w= .ok (.value (i64 m)) (aK w b (jM E A)):=by
  simp[execOp,ho,resolve,invoke,builtin,O.eval hx,O.eval hy,Builtin.copy_,run_underlying N,a4 w G.ss,S,Z,a5 w G.ss,a6,goInt,jM]
 rw[this];simp only[aI,hd];exact hK _ _ _ k _ _ (O.put hn) (G.block hH a2)
theorem a9V{H1 R d f T te fo Z xs ts vs q}{M:Ending→Heap→HL→Prop}
 (ho:o.op= .call ⟨.invoke fo Z,xs.toArray,ts⟩)(hd:o.dst=some d)(hn:aH d cx.n=true)(hf:ev e fo=some (.iface T (.pointer q)))(hx:evs e xs=some vs)
 (hm:((cx.P.info? T).bind fun i=>i.methods.find? (·.name == Z)).map (fun m=>(m.path.isEmpty,m.func))=some (true,some (f,true)))(hu:cx.P.underlying T=some (.pointer te))
 (hs:jO cx.P f (.pointer q::vs) I H1 M)
 (k:∀v G A,Le I G→M (.returned v) G A→C ((d,v)::e) G (A++R))
 (kp:∀ch G A,Le I G→M (.panicked ch) G A→Ej cx Q (.panic ch) e G (A++R))
 (ko:∀G A,¬M .outgrown G A):mF cx Q o e I (H1++R) C:=by
 intro K hK a w ha O;unfold aU;have hr:(execOp a.eval o).run cx.P w= .ok (.enter f (.pointer q::vs).toArray) w:=by
  have a5:xs.toArray.map a.eval=vs.toArray:=by rw[bM,ha.CP hx]
  obtain⟨m,a6,a2⟩:=bH.1 hm;obtain⟨i,hi,a7⟩:=Option.bind_eq_some_iff.1 a6;simp only[fD]at a2;obtain⟨N,a8⟩:=a2;have a9:m.path.toList=[]:=by
   have:m.path= #[]:=by simpa using N
   rw[this]
  have a0:=wF hs.1 (.pointer q::vs).toArray w;have a1:∀n:Nat,(method (n+1) T (.pointer q) Z).run cx.P w= .ok (f,.pointer q) w:=fun n=>by
   simp[method,typeInfo,hi,a7,a9,follow,a8,receiverAt,run_underlying hu,Place.get]
  have aa:∀n:Nat,(method (n+Made.depth) T (.pointer q) Z).run cx.P w= .ok (f,.pointer q) w:=fun n=>a1 (n+(Made.depth-1));simp only[execOp,ho,resolve,a5,ha.eval hf,invoke,aB,aG,aA,callMethod];simp[aa,a0]
 rw[hr];simp only[aI];have S:Ready I H1 w:=⟨O.sub,fun p N=>O.own p (aC _ N),by
  have:=O.nodup;rw[aW,aQ]at this;exact this.1,fun p N=>O.dis p (aC _ N)⟩
 refine(hs.2 w S).mono ?_;rintro en w' ⟨G,A,a3,N⟩;have a4:=a3.le;have W:=O.call a3;cases en with
 |returned v=>
  rw[hd];exact hK _ _ _ (k v G A a4 N) _ _ (ha.put hn) W
 |panicked ch=>exact kp ch G A a4 N _ _ ha W
 |outgrown=>exact(ko _ _ N).elim
end
theorem St.set1{w I b T off cs v}(A:Ready I [(b,jM T cs)] w):St w [b] I I [(b,jM T (cs.set off v))] (w.setCell ⟨b,off,none⟩ v):=by
 have M:w.heap[b]?=some (jM T cs):=A.2.1 (b,jM T cs) (.head _);have G:St w [b] I I [(b,jM T cs)] w:=dB w I [(b,jM T cs)] A.1 A.2.1 A.2.2.1 A.2.2.2;rw[OZ (fr:=(0,0)) M];exact G.block (i:=0) rfl dR
theorem jO.ZB{P f args I b T off cs x y v}(G:Enters P f)(M:cs[off]?=some x)
 (h:∀w,w.cell? ⟨b,off,none⟩=some x→w.frozen? ⟨b,off,none⟩=false→Calls P f args.toArray w fun e w'=>e= .returned v∧w'=w.setCell ⟨b,off,none⟩ y):
 jO P f args I [(b,jM T cs)] (fun e _ H'=>e= .returned v∧H'=[(b,jM T (cs.set off y))]):=
 ⟨G,fun w A=>(h w (cell_of_heap (A.2.1 _ (.head _)) M) (by have:=A.2.1 _ (.head _);simp only at this;simp[fE,this,jM])).mono fun e w' ⟨h1,h2⟩=>⟨I,_,h2▸St.set1 A,h1,rfl⟩⟩
theorem jO.b4b{P f args I b T off cs x v}(G:Enters P f)(M:cs[off]?=some x)
 (h:∀w,w.cell? ⟨b,off,none⟩=some x→Calls P f args.toArray w fun e w'=>e= .returned v∧w'=w):
 jO P f args I [(b,jM T cs)] (fun e _ H'=>e= .returned v∧H'=[(b,jM T cs)]):=
 ⟨G,fun w A=>(h w (cell_of_heap (A.2.1 _ (.head _)) M)).mono fun _ _ ⟨h1,h2⟩=>⟨I,_,h2▸dB w I _ A.1 A.2.1 A.2.2.1 A.2.2.2,h1,rfl⟩⟩
theorem NR.ZB{P f args u I b T off cs x y v}(N:Enters P f)(O:cs[off]?=some x)
 (h:∀w,w.cell? ⟨b,off,none⟩=some x→w.frozen? ⟨b,off,none⟩=false→CallsD P f args.toArray u w fun e A w'=>A=u∧(e= .returned v∧(w'=w.setCell ⟨b,off,none⟩ y∨w'=w.drew.setCell ⟨b,off,none⟩ y))):
 NR P f args u I [(b,jM T cs)] (fun A _ H'=>A=u∧H'=[(b,jM T (cs.set off y))]):=
 ⟨N,fun w G=>(h w (cell_of_heap (G.2.1 _ (.head _)) O) (by have:=G.2.1 _ (.head _);simp only at this;simp[fE,this,jM])).mono fun e A w' ⟨h0,h1,h2⟩=>⟨⟨v,h1⟩,I,_,by
  have M:=St.set1 (off:=off) (v:=y) G;rcases h2 with h2|h2
  ·rw[h2];exact M
  rw[h2];exact M.drew,h0,rfl⟩⟩
def tab (f:Nat→Value) (tr:Value):List Value:=(List.range 256).map f++[tr]
theorem sK f tr:(tab f tr).length=257:=by simp[tab]
theorem wR f tr {i}(h:i<256):(tab f tr)[i]?=some (f i):=by
 unfold tab;rw[aS (by simpa using h)];simp[h]
theorem ZN f tr:(tab f tr)[256]?=some tr:=by
 unfold tab;rw[bD sI];simp
theorem b5J f tr v {i}(h:i<256):(tab f tr).set i v=tab (fun j=>if j=i then v else f j) tr:=by
 apply List.ext_getElem?
 intro j;rw[dZ];rcases dA j 256 with G|G
 ·rw[wR _ _ G,wR _ _ G]
  by_cases A:i=j
  ·subst A;simp[sK];omega
  have:¬j=i:=fun M=>A M.symm;simp[A,this]
 have A:¬i=j:=oM;simp only[A,if_false];unfold tab;rw[bD (by simpa using G),bD (by simpa using G)];simp
theorem a9j f tr v:(tab f tr).set 256 v=tab f v:=by
 unfold tab;rw[List.set_append_right _ _ sI];simp
theorem b5h{f tr}(A:∀i,(f i).oneCell'=true)(G:tr.oneCell'=true):(tab f tr).all aY=true:=by
 unfold tab;simp[A,G]
theorem b4I f a v:oD (tab f a) 256 [v] (tab f v):=by
 refine⟨by simp[sK],?_⟩;unfold tab;rw[List.take_append_of_le_length sI,List.take_of_length_le sI,List.drop_eq_nil_of_le sI];simp
theorem oD.all{l xs:List Value}(h:l.length=xs.length):oD l 0 xs xs:=⟨by simp[h],by simp[←h]⟩
theorem a1X n g:(gV n g).cells= #[gV n g]:=by cases g<;>rfl
theorem a6Q n g:(gV n g).oneCell'=true:=by cases g<;>rfl
def TJ (I:Heap) (l:List UInt8) (v:Value):Prop:=∃b c sp fr,v= .slice (some ⟨b,0,none⟩) l.length c∧I b=some (.cells (mQ l++sp).toArray 5 fr)
theorem TJ.mono{I A l v}(h:TJ I l v)(G:Le I A):TJ A l v:=let ⟨b,c,sp,fr,h1,h2⟩:=h;⟨b,c,sp,fr,h1,G _ _ h2⟩
section
variable {cx:Cx} {Q:Qt} {e:Env} {I:Heap} {H:HL}
theorem Ej.b6j{fn}{A:Ending→Heap→HL→Prop}{H1 Z H3 R1 f1 f2 M Q N S}(a0:cx.ds=[⟨.fn (.func f1) M.toArray,Q.toArray⟩,⟨.fn (.func f2) N.toArray,S.toArray⟩])
 (h1:NR cx.P f1 (Q++M) .returning I H1 fun O _ H'=>O= .returning∧H'=Z)(h2:∀G,NR cx.P f2 (S++N) .returning G Z fun O _ H'=>O= .returning∧H'=H3)
 (k:∀G,Le I G→a8C cx fn A e G (H3++R1)):Ej cx (bodyPostD cx.P fn (RR cx.w0 cx.D cx.I0 A)) .normal e I (H1++R1):=by
 intro a w ha a1;show Leaves cx.P fn a.tmps (RR cx.w0 cx.D cx.I0 A) a.defers .returning w;rw[ha.defs,a0];refine XO sI h1 a1 ?_;rintro O G _ w' a2 ⟨rfl,rfl⟩ a3;refine XO (by simp[]) (h2 G) a3 ?_;rintro _ I2 _ w2 W ⟨rfl,rfl⟩ a4;exact k I2 (a2.trans W) a w2 ha a4
theorem a8C.none{fn}{A:Ending→Heap→HL→Prop}(G:fn.results= #[])(M:A (.returned (.tuple #[])) I H):a8C cx fn A e I H:=
 fun _ _ _ N=>⟨.tuple #[],results_none G _ _ _,I,H,N,M⟩
end
def YC (P:Program) (l:Nat) (args:List Value) (I:Heap) (H:HL) (post:Ending→Heap→HL→Prop):Prop:=
 ∀w,Ready I H w→∃f tmps assign body,(Instr.yield l args.toArray).run P w= .ok (.round l f tmps assign body) w∧RoundIn aX 0 P l f tmps assign body w (RR w (H.map (·.1)) I post)
theorem a5T{rd n P l f tmps assign body w}{R:Ending→World→Prop}(h:RoundIn aX n P l f tmps assign body w R):RoundIn { aX with round:=rd } n P l f tmps assign body w R:=by
 cases rd with
 |none=>exact h
 |some l=>exact h
section
variable {cx:Cx} {Q:Qt} {o:Oper} {e:Env} {I:Heap}
theorem a3a{H1 R d l fo xs ts vs}{M:Ending→Heap→HL→Prop}{K:Act→World→Prop}
 (ho:o.op= .call ⟨.value fo,xs.toArray,ts⟩)(hd:o.dst=some d)(hn:aH d cx.n=true)(hf:ev e fo=some (.func (.yield l) #[] #[]))(hx:evs e xs=some vs)(hs:YC cx.P l vs I H1 M)
 (k:∀v N A,Le I N→M (.returned v) N A→∀a w,Has a cx.n ((d,v)::e) cx.ds→St cx.w0 cx.D cx.I0 N (R++A) w→K a w)
 (kp:∀ch N A,¬M (.panicked ch) N A)(ko:∀N A,¬M .outgrown N A){a w}(Z:Has a cx.n e cx.ds)(G:St cx.w0 cx.D cx.I0 I (R++H1) w):o.wpIn cx.F 0 cx.P a w K Q:=by
 replace G:=G.perm (H':=H1++R) aJ;have S:Ready I H1 w:=⟨G.sub,fun p O=>G.own p (aC _ O),by
  have:=G.nodup;rw[aW,aQ]at this;exact this.1,fun p O=>G.dis p (aC _ O)⟩
 obtain⟨f,tmps,assign,body,h1,h2⟩:=hs w S;have hr:(execOp a.eval o).run cx.P w= .ok (.round l f tmps assign body) w:=by
  have a1:xs.toArray.map a.eval=vs.toArray:=by
   rw[bM,Z.CP hx]
  simp only[execOp,ho,resolve,a1,Z.eval hf,bC,invoke,aB,aG,aA,Array.empty_append,h1]
 refine⟨fun _ _=>trivial,?_⟩;have he:o.semAt cx.F.round a.eval=execOp a.eval o:=Oper.semAt_eq _ _ _ (fun c hc=>by rw[ho]at hc;cases hc);rw[he,hr];refine⟨fun h=>by simp[Cx.F,aX]at h,?_⟩;refine RoundIn.mono (a5T (rd:=cx.rd) h2) ?_;rintro en w' ⟨N,A,W,O⟩;have a2:=W.le;have a0:=(G.call W).perm (H':=R++A) aJ;cases en with
 |returned v=>
  rw[hd];exact k v N A a2 O _ _ (Z.put hn) a0
 |panicked ch=>exact(kp _ _ _ O).elim
 |outgrown=>exact(ko _ _ O).elim
theorem J.yield{O:Array Oper}{r:List Oper}{H1:HL}(R:HL){d l:Nat}{W:Operand}{xs:List Operand}{ts:Array TypeId}{vs:List Value}{G:Ending→Heap→HL→Prop}
 (hg:o.guard=none)(ho:o.op= .call ⟨.value W,xs.toArray,ts⟩)(hd:o.dst=some d)(hn:aH d cx.n=true)(hf:ev e W=some (.func (.yield l) #[] #[]))(hx:evs e xs=some vs)(hs:YC cx.P l vs I H1 G)
 (k:∀v M A,Le I M→G (.returned v) M A→J cx Q O r ((d,v)::e) M (R++A))
 (kp:∀ch M A,¬G (.panicked ch) M A)(ko:∀M A,¬G .outgrown M A):J cx Q O (o::r) e I (R++H1):=
 fun _ _ S N=>wpListIn_plain hg fun _ hK=>a3a ho hd hn hf hx hs (fun v M A Z hp a w S N=>hK a w (k v M A Z hp a w S N)) kp ko S N
theorem J.b6C{N:Array Oper}{r:List Oper}{H1:HL}(R:HL){d l:Nat}{Z:Operand}{xs:List Operand}{ts:Array TypeId}{vs:List Value}{G:Ending→Heap→HL→Prop}(j dj:Nat)(O b:Bool)
 (hg:o.guard=some (j,O))(a0:(N[j]?).bind (·.dst)=some dj)(hv:eg e dj=some (.bool b))(hb:b=O)(ho:o.op= .call ⟨.value Z,xs.toArray,ts⟩)(hd:o.dst=some d)(hn:aH d cx.n=true)(hf:ev e Z=some (.func (.yield l) #[] #[]))(hx:evs e xs=some vs)(hs:YC cx.P l vs I H1 G)
 (k:∀v M A,Le I M→G (.returned v) M A→J cx Q N r ((d,v)::e) M (R++A))
 (kp:∀ch M A,¬G (.panicked ch) M A)(ko:∀M A,¬G .outgrown M A):J cx Q N (o::r) e I (R++H1):=by
 intro a w W S;refine wpListIn_step fun K hK=>?_;rw[zF (by simp[Region.wanted,hg,xC W a0 hv,hb])];exact a3a ho hd hn hf hx hs (fun v M A a1 hp a w W S=>hK a w (k v M A a1 hp a w W S)) kp ko W S
end
def YS (P:Program) (l:Nat) (xs:List (List Value)) (Y:Nat→Heap→HL→Prop) (Z:Heap→HL→Prop):Prop:=
 ∀k args,xs[k]?=some args→∀I H,Y k I H→YC P l args I H (fun e I' H'=>(e= .returned (.bool true)∧Y (k+1) I' H')∨(e= .returned (.bool false)∧Z I' H'))
def Gen (P:Program) (f:FuncId) (fst cap:List Value) (I:Heap) (xs:List (List Value)):Prop:=
 Enters P f∧∀(l:Nat) (Y:Nat→Heap→HL→Prop) (Z:Heap→HL→Prop),(∀k I1 I2 H,Le I1 I2→Y k I1 H→Y k I2 H)→YS P l xs Y Z→
  ∀H,Y 0 I H→jO P f (fst++[.func (.yield l) #[] #[]]++cap) I H (fun e I' H'=>e= .returned (.tuple #[])∧(Y xs.length I' H'∨Z I' H'))
def a3N:List Tmp→List Value→Env→Env
 |t::ps,v::vs,e=>a3N ps vs ((t,v)::e)
 |_,_,e=>e
theorem Has.zip{n}:∀(ps:List Tmp) (vs:List Value) (e:Env) (tmps:Array Value),(∀t∈ps,aH t n=true)→Has ⟨tmps,[]⟩ n e []→Has ⟨(ps.zip vs).foldl (fun tmps (x:Tmp×Value)=>tmps.setIfInBounds x.1 x.2) tmps,[]⟩ n (a3N ps vs e) []
 |[],_,_,_,_,h=>h
 |_::_,[],_,_,_,h=>h
 |t::ps,_v::vs,_e,tmps,hn,h=>Has.zip ps vs _ _ (fun u A=>hn u (.tail _ A)) (Has.put (a:=⟨tmps,[]⟩) h (hn t (.head _)))
def b6b (cx:Cx) (l:Nat) (r:Loop) (body:Code) (Q:Qt):Qt
 | .normal,a,w=>∃e I H,Has a cx.n e cx.ds∧St cx.w0 cx.D cx.I0 I ((l,.loop r)::H) w∧Cj cx Q body e I ((l,.loop { r with state:= .busy })::H)
 |_,_,_=>False
def RdQ (cx:Cx) (l:Nat) (r:Loop) (Y:Heap→HL→Prop) (Z:Code→Heap→HL→Prop):Qt
 | .normal,_,w=>∃I H,St cx.w0 cx.D cx.I0 I ((l,.loop { r with state:= .busy })::H) w∧Y I H
 | .ret,_,w=>∃I H,St cx.w0 cx.D cx.I0 I ((l,.loop { r with state:= .busy })::H) w∧Z .ret I H
 | .exit id,_,w=>∃I H,St cx.w0 cx.D cx.I0 I ((l,.loop { r with state:= .busy })::H) w∧Z (.exit id) I H
 |_,_,_=>False
section
variable {cx:Cx} {Q:Qt} {e:Env} {I:Heap} {H:HL} {l:Nat} {r:Loop} {Y:Heap→HL→Prop} {Z:Code→Heap→HL→Prop}
theorem Ej.asg{body}(k:Cj cx Q body e I ((l,.loop { r with state:= .busy })::H)):Ej cx (b6b cx l r body Q) .normal e I ((l,.loop r)::H):=
 fun _ _ A G=>⟨e,I,H,A,G,k⟩
theorem Ej.b2j(h:Y I H):Ej cx (RdQ cx l r Y Z) .normal e I ((l,.loop { r with state:= .busy })::H):=fun _ _ _ A=>⟨I,H,A,h⟩
abbrev DF (b:Nat):Deferred:={ target:= .collected b,args:= #[] }
theorem Cj.rangeFunc{g:Operand}{ps:List Tmp}{assign body:Code}{f:Nat}{fst cap:List Value}{H1 R:HL}(xs:List (List Value))(Y:Nat→Heap→HL→Prop)(Z:Code→Heap→HL→Prop)
 (hr:cx.rd=none)(ad:∀t∈ps,Nat.blt t cx.n=true)(aa:∀args∈xs,args.length=ps.length)(hg:ev e g=some (.func (.func f) fst.toArray cap.toArray))(a4:Gen cx.P f fst cap I xs)
 (a7:∀k M I2 H,Le M I2→Y k M H→Y k I2 H)(h0:Y 0 I H1)
 (round:∀l r k args M G w0,xs[k]?=some args→Le I M→Y k M G→
  Cj ⟨cx.P,cx.n,w0,l::G.map (·.1),M,[],some l⟩ (b6b ⟨cx.P,cx.n,w0,l::G.map (·.1),M,[],some l⟩ l r body (RdQ ⟨cx.P,cx.n,w0,l::G.map (·.1),M,[],some l⟩ l r (Y (k+1)) Z)) assign (a3N ps args e) M ((l,.loop r)::G))
 (done:∀b I' H',Le I I'→Y xs.length I' H'→Ej { cx with ds:=DF b::cx.ds } Q .normal e I' ((b,.deferred (some []))::(H'++R)))
 (left:∀b c I' H',Le I I'→Z c I' H'→Cj { cx with ds:=DF b::cx.ds } Q c e I' ((b,.deferred (some []))::(H'++R))):
 Cj cx Q (.rangeFunc g ps.toArray assign body) e I (H1++R):=by
 intro a w ha ae;rw[Cx.wide hr];refine wpIn_rangeFunc fun fn _=>?_;obtain⟨r,N⟩:∃r:Loop,r={ state:= .ready,pending:=none,fn:=fn,tmps:=a.tmps,params:=ps.toArray,assign:=assign,body:=body,defers:=w.heap.size }:=⟨_,rfl⟩;obtain⟨l,hl⟩:∃l,l=w.heap.size+1:=⟨_,rfl⟩;have W:St cx.w0 cx.D cx.I0 I (((l,.loop r)::H1)++((w.heap.size,.deferred (some []))::R)) ((w.alloc (.deferred (some []))).alloc (.loop r)):=by
  have h1:=(ae.alloc (.deferred (some []))).alloc (.loop r);have h2:(w.heap.push (.deferred (some []))).size=l:=by rw[hl,Array.size_push]
  rw[h2]at h1;refine h1.perm ?_;show((l,Obj.loop r)::(H1++(w.heap.size,Obj.deferred (some []))::R)).Perm _;exact List.Perm.cons _ dD
 let Y':Nat→Heap→HL→Prop:=fun k M H=>Le I M∧∃G,H=(l,.loop r)::G∧Y k M G
 let Z':Heap→HL→Prop:=fun M H=>∃c G,H=(l,.loop { r with state:= .done,pending:=some c })::G∧Z c M G
 have af:YS cx.P l xs Y' Z':=by
  rintro k args hk M H ⟨S,G,rfl,hY⟩ w1 A;have ag:w1.heap[l]?=some (.loop r):=A.2.1 _ (.head _);have ah:=aa args (aF hk);refine⟨r.fn,_,r.assign,r.body,run_yield ag (by rw[N];simp[ah]),roundIn_of_wpIn trivial ?_⟩;have hz:(r.params.zip args.toArray).foldl (fun tmps (x:Tmp×Value)=>tmps.setIfInBounds x.1 x.2) r.tmps=(ps.zip args).foldl (fun tmps (x:Tmp×Value)=>tmps.setIfInBounds x.1 x.2) a.tmps:=by
   rw[N];simp[List.zip_toArray]
  have a5:=Has.zip (n:=cx.n) ps args e a.tmps ad ⟨ha.size,rfl,ha.get⟩;rw[←hz]at a5;have hc:=round l r k args M G w1 hk S hY _ _ a5 (dB w1 M ((l,.loop r)::G) A.1 A.2.1 A.2.2.1 A.2.2.2);have e1:r.assign=assign:=by rw[N]
  have e2:r.body=body:=by rw[N]
  rw[e1,e2];refine wpIn_mono hc ?_;rintro x a2 _ hq;cases x with
  |normal=>
   obtain⟨e2,I2,_,ha2,a8,hb⟩:=hq;refine⟨_,run_beginRound (a8.own _ (.head _)) (by rw[N]),?_⟩;have ai:=a8.block (i:=0) (o':= .loop { r with state:= .busy }) rfl dR;refine wpIn_mono (hb a2 _ ha2 ai) ?_;rintro x _ _ a0;cases x with
   |normal=>
    obtain⟨I3,H3,O,aj⟩:=a0;refine⟨_,_,run_endRound none (O.own _ (.head _)),I3,(l,.loop r)::H3,?_,.inl ⟨rfl,S.trans O.le,H3,rfl,aj⟩⟩;have:=O.block (i:=0) (o':= .loop r) rfl dR;rw[N]at this ⊢;exact this
   |ret=>
    obtain⟨I3,H3,O,a6⟩:=a0;exact⟨_,_,run_endRound (some .ret) (O.own _ (.head _)),I3,_,O.block (i:=0) rfl dR,.inr ⟨rfl,_,H3,rfl,a6⟩⟩
   |exit id=>
    obtain⟨I3,H3,O,a6⟩:=a0;exact⟨_,_,run_endRound (some (.exit id)) (O.own _ (.head _)),I3,_,O.block (i:=0) rfl dR,.inr ⟨rfl,_,H3,rfl,a6⟩⟩
   |goto t=>exact a0.elim
   |panic ch=>exact a0.elim
   |outgrown=>exact a0.elim
  |exit id=>exact hq.elim
  |goto t=>exact hq.elim
  |ret=>exact hq.elim
  |panic ch=>exact hq.elim
  |outgrown=>exact hq.elim
 have ab:=a4.2 l Y' Z' (fun k M I2 H S ⟨h1,G,h2,h3⟩=>⟨h1.trans S,G,h2,a7 _ _ _ _ S h3⟩) af ((l,.loop r)::H1) ⟨dM _,H1,rfl,h0⟩;have A:Ready I ((l,.loop r)::H1) ((w.alloc (.deferred (some []))).alloc (.loop r)):=⟨W.sub,fun p hp=>W.own p (aC _ hp),by
  have:=W.nodup;rw[aW,aQ]at this;exact this.1,fun p hp=>W.dis p (aC _ hp)⟩
 have ac:(Instr.enterLoop fn a.tmps ps.toArray assign body none).run cx.P w= .ok (l,[DF w.heap.size]) ((w.alloc (.deferred (some []))).alloc (.loop r)):=by
  rw[hl,N];exact run_enterLoop_outer fn a.tmps ps.toArray assign body
 refine⟨l,[DF w.heap.size],(w.alloc (.deferred (some []))).alloc (.loop r),⟨.fn (.func f) cap.toArray,(fst++[eY (.yield l) #[] #[]]).toArray⟩,(w.alloc (.deferred (some []))).alloc (.loop r),f,(fst++[eY (.yield l) #[] #[]]++cap).toArray,(w.alloc (.deferred (some []))).alloc (.loop r),ac,?_,fun _ _=>trivial,?_,fun h=>by simp[aX]at h,callsIn_wide.2 ?_⟩
 ·have he:a.eval (.const (.func (.yield l) #[] #[]))= .func (.yield l) #[] #[]:=rfl;simp[resolve,ha.eval hg,bC,he]
 ·have h:=wF a4.1 (fst++[eY (.yield l) #[] #[]]++cap).toArray ((w.alloc (.deferred (some []))).alloc (.loop r));simpa[invoke]using h
 refine(ab.2 _ A).mono ?_;rintro _ w' ⟨I',H',a9,rfl,al⟩;have a1:=W.call a9;have S:=a9.le;have ha2:Has { a with defers:=[DF w.heap.size]++a.defers } cx.n e (DF w.heap.size::cx.ds):=⟨ha.size,by simp[ha.defs],ha.get⟩;rcases al with⟨_,G,rfl,hY⟩|⟨c,G,rfl,hZ⟩
 ·refine⟨_,_,run_endLoop (a1.own _ (.head _)) (by rw[N];simp),?_⟩;have a3:=((a1.block (i:=0) (o':= .loop { r with state:= .exhausted }) rfl dR).sublist (dL _ _)).perm (H':=(w.heap.size,.deferred (some []))::(G++R)) dD.symm;have hp:r.pending=none:=by rw[N]
  rw[hp]at a3 ⊢;exact done w.heap.size I' G S hY _ _ ha2 a3
 refine⟨_,_,run_endLoop (a1.own _ (.head _)) sI,?_⟩;have a3:=((a1.block (i:=0) (o':= .loop { { r with state:= .done,pending:=some c }with state:= .exhausted }) rfl dR).sublist (dL _ _)).perm (H':=(w.heap.size,.deferred (some []))::(G++R)) dD.symm;have hw:=left w.heap.size c I' G S hZ _ _ ha2 a3;have hF:({ cx with ds:=DF w.heap.size::cx.ds }:Cx).F=aX:=Cx.wide hr;rw[hF]at hw;exact hw
end
theorem a5Z{t n}(h:aH t n=true):∀u∈[t],aH u n=true:=fun u A=>by simp at A;subst A;exact h
theorem seq1{α:Type}(l:List α)(f:α→Value):∀args∈l.map (fun x=>[f x]),args.length=1:=fun args h=>by
 obtain⟨x,_,rfl⟩:=aZ.1 h;rfl
theorem a6s{α:Type}{l:List α}{f:α→Value}{k:Nat}{args}(h:(l.map (fun x=>[f x]))[k]?=some args):∃x,l[k]?=some x∧args=[f x]:=by
 rw[eF]at h;cases hl:l[k]? with
 |none=>rw[hl]at h;cases h
 |some x=>rw[hl]at h;cases h;exact⟨x,rfl,rfl⟩
theorem Cj.b3K{A Q c e I H}(M:A.D=[])(k:(∀p∈H,A.w0.heap.size≤p.1)→Cj A Q c e I H):Cj A Q c e I H:=fun a w N G=>k (fun p O=>by
 have:=G.new p O;rw[M]at this;exact this.resolve_left sI) a w N G
theorem kZ.base{G A sz n xs g T}(h:kZ G sz n xs g)(M:∀p∈gH T xs g,A≤p.1):kZ A sz n xs g:=by
 cases g with
 |none=>exact h
 |some q=>exact⟨M _ (.head _),h.2⟩
theorem jO.a4H{P f fn c args I H}{A:Ending→Heap→HL→Prop}(N:P.funcs[f]?=some fn)(O:fn.body=some c)(M:fn.name≠ "runtime.NumGoroutine")
 (Q:args.length≤fn.ntmps)
 (h:∀w0,Ready I H w0→Cj ⟨P,fn.ntmps,w0,H.map (·.1),I,[],none⟩ (bodyPostM aX 0 P fn (RR w0 (H.map (·.1)) I A)) c (uQ 0 args) I H):jO P f args I H A:=by
 refine⟨⟨fn,N,M,by simp[O]⟩,fun w G=>?_⟩;refine(callsIn_wide (n:=0)).1 (callsIn_of_wp_marks N O trivial ?_);exact h w G _ _ (Has.start args fn.ntmps Q) (dB w I H G.1 G.2.1 G.2.2.1 G.2.2.2)
def GN (cx:Cx) (fn:Func) (post:Ending→Heap→HL→Prop) (ds:List Deferred) (e:Env) (I:Heap) (H:HL):Prop:=
 ∀a w,Has a cx.n e cx.ds→St cx.w0 cx.D cx.I0 I H w→LeavesInM aX 0 cx.P fn a.tmps (RR cx.w0 cx.D cx.I0 post) ds .returning w
section
variable {cx:Cx} {fn:Func} {post:Ending→Heap→HL→Prop} {e:Env} {I:Heap} {H H':HL} {ds:List Deferred}
theorem Ej.b0o{x}(G:x= .ret∨x= .normal)(h:GN cx fn post cx.ds e I H):Ej cx (bodyPostM aX 0 cx.P fn (RR cx.w0 cx.D cx.I0 post)) x e I H:=by
 intro a w A M;have:=h a w A M;rw[←A.defs]at this;rcases G with rfl|rfl
 ·exact this
 exact this
theorem GN.mark{b} i (A:H[i]?=some (b,.deferred (some [])))(G:lS H i (b,.deferred none) H')(h:GN cx fn post ds e I H'):GN cx fn post (DF b::ds) e I H:=
 fun a _ N M=>⟨sI,.inl ⟨b,_,rfl,run_takeDeferred (M.own _ (aF A)),h a _ N (M.block A G)⟩⟩
theorem GN.keep(A:Keeps H' H)(h:GN cx fn post ds e I H'):GN cx fn post ds e I H:=fun a w G M=>h a w G (M.sublist A)
theorem GN.MX{t v}(A:fn.results= #[.tmp t])(G:eg e t=some v)(M:post (.returned v) I H):GN cx fn post [] e I H:=by
 intro a w N O;refine⟨v,?_,I,H,O,M⟩;rw[results_tmp A];have:=N.get t v G;simp[this]
end
section
variable {α:Type} [BEq α] [LawfulBEq α]
abbrev ML (α:Type):=List (α×Value×Nat)
abbrev oV (kv:α→Value) (p:α×Value×Nat):MapEntry:={ key:=kv p.1,val:=p.2.1,born:=p.2.2 }
def kG (kv:α→Value) (l:ML α) (c:Nat):Obj:= .map (l.map (oV kv)).toArray c
def kH (l:ML α) (a:α):Option Value:=match l with
 |[]=>none
 |(b,v,_)::r=>if a == b then some v else kH r a
def kN (l:ML α) (a:α) (v:Value) (c:Nat):ML α:=match l with
 |[]=>[(a,v,c)]
 |(b,u,n)::r=>if a == b then(b,v,n)::r else(b,u,n)::kN r a v c
def mV (l:ML α) (a:α) (c:Nat):Nat:=if (kH l a).isSome then c else c+1
def midx (l:ML α) (a:α) (i:Nat):Option (Nat×Value):=match l with
 |[]=>none
 |(b,v,_)::r=>if a == b then some (i,v)else midx r a (i+1)
def mY (P:Program) (K:TypeId) (kv:α→Value):Prop:=
 (∀(a:α) (l:ML α) (w:World),(aP K (kv a) (l.map (oV kv))).run P w= .ok (midx l a 0) w)∧(∀b a w,(aN b 10000 K (kv a)).run P w= .ok () w)∧∀a,aV 10000 (kv a) (kv a)=true
theorem run_findKey{P K w d}(A:P.underlying K=some d){k es r}(h:bJ d k es 0=some r):(aP K k es).run P w= .ok r w:=by
 simp[aP,run_underlying A,h]
omit [LawfulBEq α] in
theorem QB{kv d}(A:∀a b,bK d (kv a) (kv b)=some (a == b)) a:∀(l:ML α) (i:Nat),bJ d (kv a) (l.map (oV kv)) i=some (midx l a i)
 |[],_=>rfl
 |(b,u,n)::r,i=>by
  simp only[bY,bJ,A,midx];cases a == b
  ·simp only[aO,if_false];exact QB A a r (i+1)
  simp
omit [LawfulBEq α] in
theorem mY.now{P K}{kv:α→Value}{d}(A:P.underlying K=some d)(G:∀a b,bK d (kv a) (kv b)=some (a == b))(M:∀b a w,(aN b 10000 K (kv a)).run P w= .ok () w)(N:∀a,aV 10000 (kv a) (kv a)=true):mY P K kv:=
 ⟨fun a l _=>run_findKey A (QB G a l 0),M,N⟩
omit [LawfulBEq α] in
theorem ZC{P K kv w}(A:∀a b,(Op.equal K (kv a) (kv b)).run P w= .ok (a == b) w) a:∀(l:ML α) (i:Nat),(dF K (kv a) (l.map (oV kv)) i).run P w= .ok (midx l a i) w
 |[],i=>by simp[dF,midx]
 |(b,u,n)::r,i=>by
  simp only[bY,dF,midx,aB,A,aA];cases a == b
  ·simp only[aO,if_false];exact ZC A a r (i+1)
  simp
omit [LawfulBEq α] in
theorem mY.equal{P K}{kv:α→Value}{d}(A:P.underlying K=some d)(G:∀a b,bK d (kv a) (kv b)=none)(M:∀a b w,(Op.equal K (kv a) (kv b)).run P w= .ok (a == b) w)(N:∀b a w,(aN b 10000 K (kv a)).run P w= .ok () w)(O:∀a,aV 10000 (kv a) (kv a)=true):mY P K kv:=by
 refine⟨fun a l w=>?_,N,O⟩;cases l with
 |nil=>exact run_findKey A rfl
 |cons p r=>
  have h1:bJ d (kv a) ((p::r).map (oV kv)) 0=none:=by simp[bJ,G]
  have h2:=ZC (P:=P) (K:=K) (w:=w) (fun a b=>M a b w) a (p::r) 0;simp only[aP,aB,run_underlying A,aA,h1];exact h2
theorem mY.int{P K k}(A:P.underlying K=some (.int k)):mY P K (fun a:Int=>Value.int k a):=by
 refine mY.now A (fun a b=>by simp[bK]) (fun b a w=>?_) (fun a=>?_)
 ·have h:∀n,(aN b (n+1) K (.int k a)).run P w= .ok () w:=fun n=>by simp[aN,run_underlying A]
  exact h 9999
 have h:∀n,aV (n+1) (.int k a) (.int k a)=true:=fun n=>by simp[aV]
 exact h 9999
theorem PX a:∀n,aV n (str a) (str a)=true:=fun n=>by
 cases n<;>simp only[aV,str]<;>(show(a.toArray == a.toArray)=true)<;>simp
theorem mY.text{P K}(A:P.underlying K=some .string):mY P K (fun a:List UInt8=>str a):=by
 refine mY.now A (fun a b=>?_) (fun b a w=>run_checkKey A b a w) (fun a=>PX a _);simp only[bK,str,Option.some.injEq];show(a.toArray == b.toArray)=(a == b);simp
theorem yY{a}:∀(l:ML α) (i:Nat),kH l a=none→midx l a i=none∧∀v c,kN l a v c=l++[(a,v,c)]
 |[],_,_=>⟨rfl,fun _ _=>rfl⟩
 |(b,u,n)::r,i,h=>by
  unfold kH at h
  split at h
  ·cases h
  rename_i A
  obtain⟨h1,h2⟩:=yY r (i+1) h;have G:(a == b)=false:=by simpa using A
  refine⟨?_,fun v c=>?_⟩
  ·simp only[midx,G];exact h1
  simp only[kN,G,aO,if_false,h2,List.cons_append]
theorem JO{a v}:∀(l:ML α) (i:Nat),kH l a=some v→
 ∃j u n,midx l a i=some (i+j,v)∧l[j]?=some (a,u,n)∧∀x c,kN l a x c=l.set j (a,x,n)
 |[],_,h=>by cases h
 |(b,u,n)::r,i,h=>by
  unfold kH at h
  split at h
  ·rename_i N
   have A:=zB N;subst A;cases h;exact⟨0,v,n,by simp[midx],rfl,fun x c=>by simp[kN]⟩
  rename_i G
  have M:(a == b)=false:=by simpa using G
  obtain⟨j,O,Q,h1,h2,h3⟩:=JO r (i+1) h;refine⟨j+1,O,Q,?_,by simpa using h2,fun x c=>by simp[kN,M,h3]⟩;simp only[midx,M,aO,if_false];rw[h1,fF,Nat.add_comm 1 j]
variable {cx:Cx} {Q:Qt} {e:Env} {I:Heap} {H:HL} {o:Oper} {C:Ct} {S:World→Prop}
theorem a2w{P:Program}{T K E b c:Nat}{kv:α→Value}{l:ML α}{a:α}{v:Value}{w:World}(Q:P.underlying T=some (.map K E))(hk:mY P K kv)(S:w.heap[b]?=some (kG kv l c)):
 (dH T (.map (some b)) (kv a) v).run P w= .ok () (aK w b (kG kv (kN l a v c) (mV l a c))):=by
 obtain⟨W,Z,G⟩:=hk;have hg:(getObj b).run P w= .ok (kG kv l c) w:=by simp[getObj,dN,S,kG]
 have hset:∀o',(setObj b o').run P w= .ok () (aK w b o'):=fun o'=>by simp[setObj,dN,S,aK,kG]
 cases hm:kH l a with
 |none=>
  obtain⟨h1,h2⟩:=yY l 0 hm;have h3:(aP K (kv a) (l.map (oV kv))).run P w= .ok none w:=by rw[W,h1]
  simp only[dH,aB,run_underlying Q,aA,hg,kG,Z,h3,hset,h2,mV,hm];simp
 |some u=>
  obtain⟨j,u',n,h1,h2,h3⟩:=JO l 0 hm;rw[Nat.zero_add]at h1;have h4:(aP K (kv a) (l.map (oV kv))).run P w= .ok (some (j,u)) w:=by rw[W,h1]
  have hj:(l.map (oV kv)).toArray[j]?=some { key:=kv a,val:=u',born:=n }:=by simp[h2,oV]
  have M:∀w,(dW (kv a) (kv a)).run P w= .ok (kv a) w:=fun w=>by simp[dW,G]
  simp only[dH,aB,run_underlying Q,aA,hg,kG,Z,h4,hj,Option.map_some,Option.getD_some,M,hset,h3,mV,hm];simp only[Option.isSome_some,if_true];refine zC (fun A=>Result.ok () (aK w b (Obj.map A c))) ?_
  apply bV
  intro i;rw[dQ];simp only[List.getElem?_toArray,eF,dZ]
  by_cases hi:j=i
  ·subst hi;have N:j<l.length:=by
    rcases dA j l.length with O|O
    ·exact O
    simp[List.getElem?_eq_none O]at h2
   have h5:l[j]=(a,u',n):=by
    have:=List.getElem?_eq_getElem N;rw[h2]at this;exact(Option.some.inj this).symm
   simp[N,h5]
  simp[hi]
theorem nY{T K E b c:Nat}{m x y}{kv:α→Value}{l a}{M v:Value}{H'}(i:Nat)(A:o.op= .insert T m x y∨o.op= .mapUpdate T m x y)(hd:o.dst=none)(hm:ev e m=some (.map (some b)))(hx:ev e x=some M)(N:M=kv a)(hy:ev e y=some v)(hT:cx.P.underlying T=some (.map K E))(hK:mY cx.P K kv)
 (O:H[i]?=some (b,kG kv l c))(S:lS H i (b,kG kv (kN l a v c) (mV l a c)) H')(kk:C e I H'):mF cx Q o e I H C:=by
 intro _ W w0 w G Z;unfold aU;subst N;have hb:=Z.own _ (aF O);have hr:=a2w (a:=a) (v:=v) hT hK hb;have:(execOp w0.eval o).run cx.P w= .ok .skip (aK w b (kG kv (kN l a v c) (mV l a c))):=by
  rcases A with A|A<;>simp[execOp,A,G.eval hm,G.eval hx,G.eval hy,hr]
 rw[this];simp only[aI,hd];exact W _ _ _ kk _ _ G.AZ (Z.block O S)
theorem YF{P:Program}{T K E b c:Nat}{kv:α→Value}{l:ML α}{a:α}{z:Value}{w:World}{ok:Bool}(A:P.underlying T=some (.map K E))(O:mY P K kv)(Q:∀w,(zeroValue E).run P w= .ok z w)(S:w.heap[b]?=some (kG kv l c)):
 (dX T (.map (some b)) (kv a) ok).run P w= .ok (if ok then .tuple #[(kH l a).getD z,.bool (kH l a).isSome]else(kH l a).getD z) w:=by
 obtain⟨G,M,_⟩:=O;have N:(getObj b).run P w= .ok (kG kv l c) w:=by simp[getObj,dN,S,kG]
 cases hm:kH l a with
 |none=>
  have h3:(aP K (kv a) (l.map (oV kv))).run P w= .ok none w:=by rw[G,(yY l 0 hm).1]
  simp only[dX,aB,run_underlying A,aA,N,kG,aG,M,h3,Q];simp
 |some u=>
  obtain⟨j,_,n,h1,h2,h3⟩:=JO l 0 hm;have W:(aP K (kv a) (l.map (oV kv))).run P w= .ok (some (0+j,u)) w:=by rw[G,h1]
  simp only[dX,aB,run_underlying A,aA,N,kG,aG,M,W];simp
theorem a8p{T K E b c:Nat}{m x}{kv:α→Value}{l a}{A z:Value}(N:o.op= .lookup T m x true)(O:ev e m=some (.map (some b)))(Q:ev e x=some A)(G:A=kv a)(W:cx.P.underlying T=some (.map K E))(Z:mY cx.P K kv)(hz:∀w,(zeroValue E).run cx.P w= .ok z w)
 (hb:jR S b (kG kv l c)):kX cx o e S (.tuple #[(kH l a).getD z,.bool (kH l a).isSome]):=by
 intro w0 w M hs;subst G;have hr:=YF (a:=a) (ok:=true) W Z hz (hb w hs);simp only[execOp,N,aB,M.eval O,M.eval Q,hr,aA,aG,if_true]
theorem kQ{T K E b c:Nat}{m x}{kv:α→Value}{l a}{A z:Value}(N:o.op= .lookup T m x false)(O:ev e m=some (.map (some b)))(Q:ev e x=some A)(G:A=kv a)(W:cx.P.underlying T=some (.map K E))(Z:mY cx.P K kv)(hz:∀w,(zeroValue E).run cx.P w= .ok z w)
 (hb:jR S b (kG kv l c)):kX cx o e S ((kH l a).getD z):=by
 intro w0 w M hs;subst G;have hr:=YF (a:=a) (ok:=false) W Z hz (hb w hs);simp only[execOp,N,aB,M.eval O,M.eval Q,hr,aA,aG,if_false,aO]
end
theorem nb(a n:Nat):((a:Int) == (n:Int))=(a == n):=by rw[Bool.eq_iff_iff,beq_iff_eq,beq_iff_eq];omega
def qR (T:TypeId) (I:Heap) (l:List (List UInt8)) (v:Value):Prop:=∃b c sp,v= .slice (some ⟨b,0,none⟩) l.length c∧I b=some (jM T (l.map str++sp))
theorem qR.mono{T I A l v}(h:qR T I l v)(G:Le I A):qR T A l v:=
 let ⟨b,c,sp,h1,h2⟩:=h;⟨b,c,sp,h1,G _ _ h2⟩
theorem nN{l:List (List UInt8)}{sp}{k:Nat}{x}(h:l[k]?=some x):(l.map str++sp)[k]?=some (str x):=by
 obtain⟨A,_⟩:=aT.1 h;rw[aS (by simpa using A)];simp[h]
theorem uP l:(⟨l.toArray⟩:ByteArray).data.toList=l:=sI
theorem b7d{x}(h: -2147483648≤x∧x≤2147483647):fH.wrap x=x:=by
 simp[IntKind.wrap,IntKind.bits,IntKind.signed];omega
theorem drop_cons{α:Type}{s:List α}{k c}(h:s[k]?=some c):s.drop k=c::s.drop (k+1):=by
 obtain⟨A,G⟩:=aT.1 h;rw[List.drop_eq_getElem_cons A,G]
theorem Ej.b1J{A fn}{G:Ending→Heap→HL→Prop}{e I H t u s v x y}(O:fn.results= #[.tmp t,.tmp u,.tmp s])(N:A.ds=[])(Q:eg e t=some v)(S:eg e u=some x)(W:eg e s=some y)(Z:G (.returned (.tuple #[v,x,y])) I H):
 Ej A (bodyPost A.P fn (RR A.w0 A.D A.I0 G)) .ret e I H:=by
 intro a w M hs;refine⟨M.defs.trans N,_,?_,I,H,hs,Z⟩;have h1:=M.get t v Q;have h2:=M.get u x S;have h3:=M.get s y W;simp[results,O,h1,h2,h3]
theorem jO.frame{P f args I H}{G:Ending→Heap→HL→Prop} R (h:jO P f args I H G):jO P f args I (H++R) (fun e Q H'=>∃H1,H'=H1++R∧G e Q H1):=by
 refine⟨h.1,fun w O=>?_⟩;have A:=dB w I (H++R) O.1 O.2.1 O.2.2.1 O.2.2.2;have M:Ready I H w:=⟨A.sub,fun p N=>A.own p (aC _ N),by
  have:=A.nodup;rw[aW,aQ]at this;exact this.1,fun p N=>A.dis p (aC _ N)⟩
 refine(h.2 w M).mono fun e w' ⟨Q,H1,S,N⟩=>⟨Q,H1++R,A.call S,H1,rfl,N⟩
theorem jO.drop{P f args I H}{G A:Ending→Heap→HL→Prop}(h:jO P f args I H G)(O:∀e M H',G e M H'→∃N,N.Sublist H'∧A e M N):jO P f args I H A:=
 ⟨h.1,fun w Q=>(h.2 w Q).mono fun e _ ⟨M,H',S,W⟩=>let ⟨N,h1,h2⟩:=O e M H' W;⟨M,N,S.sublist h1,h2⟩⟩
theorem qF{O Q o e I C R d f fo xs ts fst cap vs}{M:Ending→Heap→HL→Prop}
 (ho:o.op= .call ⟨.value fo,xs.toArray,ts⟩)(hd:o.dst=some d)(hn:aH d O.n=true)(hf:ev e fo=some (.func (.func f) fst.toArray cap.toArray))(hx:evs e xs=some vs)
 (hs:jO O.P f (fst++vs++cap) I [] M)
 (k:∀v G A,Le I G→(∀p∈A,O.w0.heap.size≤p.1)→M (.returned v) G A→C ((d,v)::e) G (A++R))
 (kp:∀ch G A,Le I G→M (.panicked ch) G A→Ej O Q (.panic ch) e G (A++R))
 (ko:∀G A,¬M .outgrown G A):mF O Q o e I R C:=by
 intro K hK a w ha S;unfold aU;have hr:(execOp a.eval o).run O.P w= .ok (.enter f (fst++vs++cap).toArray) w:=by
  have a3:xs.toArray.map a.eval=vs.toArray:=by
   rw[bM,ha.CP hx]
  simp only[execOp,ho,resolve,a3,ha.eval hf,bC,invoke,aB,aG,aA,wF hs.1];simp
 rw[hr];simp only[aI];have W:Ready I [] w:=⟨S.sub,fun _ N=>absurd N (eP),List.nodup_nil,fun _ N=>absurd N (eP)⟩;refine(hs.2 w W).mono ?_;rintro en w' ⟨G,A,Z,N⟩;have a1:=Z.le;have a0:=St.call (H1:=[]) (R:=R) S Z;have a2:∀p∈A,O.w0.heap.size≤p.1:=fun p N=>Nat.le_trans S.size ((Z.new p N).resolve_left sI);cases en with
 |returned v=>
  rw[hd];exact hK _ _ _ (k v G A a1 a2 N) _ _ (ha.put hn) a0
 |panicked ch=>exact kp ch G A a1 N _ _ ha a0
 |outgrown=>exact(ko _ _ N).elim
def oO (T:TypeId) (I:Heap) (l:List (List UInt8)) (v:Value):Prop:=(l=[]∧v= .slice none 0 0)∨∃b c sp,v= .slice (some ⟨b,0,none⟩) l.length c∧l.length≤c∧I b=some (jM T (l.map str++sp))
theorem oO.mono{T I A l v}(h:oO T I l v)(G:Le I A):oO T A l v:=h.imp id fun⟨b,c,sp,h1,h2,h3⟩=>⟨b,c,sp,h1,h2,G _ _ h3⟩
theorem oO.some{T I l v}(h:oO T I l v)(A:l≠[]):qR T I l v:=let ⟨b,c,sp,h1,_,h3⟩:=h.resolve_left fun h=>A h.1;⟨b,c,sp,h1,h3⟩
section
variable {cx:Cx} {Q:Qt} {e:Env} {I:Heap} {R:HL} {T:TypeId} {l:List (List UInt8)} {n base:Nat} {g:Gs}
theorem b4V(A:kZ base 1 n (l.map str) none):l=[]∧n=0:=⟨by simpa using A.2,A.1⟩
theorem b5E{b c sp}(A:kZ base 1 n (l.map str) (some (b,c,sp))):base≤b∧n=l.length∧l.length≤c:=⟨A.1,by have:=A.2.1;simpa using this.symm,by have:=A.2.2;simp at this;omega⟩
theorem a3A{X:Heap→HL→Prop}(G:kZ base 1 n (l.map str) g)(N:∀b o,base≤b→(∀A,Le I A→A b=some o→X A R)→X I ((b,o)::R))(k:∀A,Le I A→oO T A l (gV n g)→X A R):X I (gH T (l.map str) g++R):=by
 cases g with
 |none=>
  obtain⟨h1,h2⟩:=b4V G;subst h2;exact k I (dM _) (.inl ⟨h1,rfl⟩)
 |some q=>
  obtain⟨b,c,sp⟩:=q;obtain⟨h1,h2,h3⟩:=b5E G;subst h2;exact N b _ h1 fun A M O=>k A M (.inr ⟨b,c,sp,rfl,h3,O⟩)
theorem Cj.xY{c}(G:kZ cx.w0.heap.size 1 n (l.map str) g)(k:∀A,Le I A→oO T A l (gV n g)→Cj cx Q c e A R):Cj cx Q c e I (gH T (l.map str) g++R):=
 a3A (X:=fun I H=>Cj cx Q c e I H) G (fun _ _ M k=>fA M k) k
theorem J.xY{A r}(M:kZ cx.w0.heap.size 1 n (l.map str) g)(k:∀G,Le I G→oO T G l (gV n g)→J cx Q A r e G R):J cx Q A r e I (gH T (l.map str) g++R):=
 a3A (X:=fun I H=>J cx Q A r e I H) M (fun _ _ N k=>J.persist N k) k
end
section
variable {cx:Cx} {Q:Qt} {o:Oper} {e:Env} {I:Heap} {H:HL} {C:Ct} {S:World→Prop}
theorem sO{d T E sz}(M:o.op= .buildSlice T 0 #[])(N:o.dst=some d)(O:aH d cx.n=true)
 (S:cx.P.underlying T=some (.slice E))(A:∀w,(sizeOf E).run cx.P w= .ok sz w)
 (k:∀b,cx.w0.heap.size≤b→C ((d,.slice (some ⟨b,0,none⟩) 0 0)::e) I ((b,jM E [])::H)):mF cx Q o e I H C:=by
 intro K W a w Z G;unfold aU;have:(execOp a.eval o).run cx.P w= .ok (.value (.slice (some ⟨w.heap.size,0,none⟩) 0 0)) { w with heap:=w.heap.push (jM E []) }:=by
  simp[execOp,M,Instr.buildSlice,run_underlying S,A,Instr.fill,newRow,jM];exact zC (fun l=>w.alloc (Obj.cells l E)) (Array.eq_empty_of_size_eq_zero sI)
 rw[this];simp only[aI,N];exact W _ _ _ (k _ G.size) _ _ (Z.put O) (G.alloc _)
theorem vT{T E sz len}{parts:List (Nat×Operand)}{vs zs cs:List Value}{z}(M:o.op= .build T parts.toArray)(N:evs e (parts.map (·.2))=some vs)
 (O:∀w,(zeroValue T).run cx.P w= .ok z w)(A:z.cells=zs.toArray)(Q:cx.P.underlying T=some (.array len E))(G:∀w,(sizeOf E).run cx.P w= .ok sz w)
 (W:Instr.fill (fun i=>some (i*sz,sz)) zs.toArray ((parts.map (·.1)).zip vs)=some cs.toArray):kX cx o e S (.agg cs.toArray):=
 a2Y M N fun w=>by
  simp only[Instr.build,aB,O,A,run_underlying Q,aA,G,W,aG]
theorem PG{P w T l m}(A:P.underlying T=some .bool):(Op.equal T (.bool l) (.bool m)).run P w= .ok (l == m) w:=by
 show(bP (9999+1) T (.bool l) (.bool m)).run P w=_;rw[bP];simp only[aB,run_underlying A,aA,aG]
theorem a8n{x y T U l m}(G:o.op= .binOp .eql T x y U)(M:ev e x=some (.bool l))(N:ev e y=some (.bool m))(O:cx.P.underlying T=some .bool):kX cx o e S (.bool (l == m)):=by
 intro a w A _;have Q:eqGuard .eql T x y (.bool l) (.bool m)=pure ():=rfl;simp[execOp,G,A.eval M,A.eval N,Q,binOp,PG O]
theorem NJ{x y T U l m}(G:o.op= .binOp .neq T x y U)(M:ev e x=some (.bool l))(N:ev e y=some (.bool m))(O:cx.P.underlying T=some .bool):kX cx o e S (.bool (l != m)):=by
 intro a w A _;have Q:eqGuard .neq T x y (.bool l) (.bool m)=pure ():=rfl;simp[execOp,G,A.eval M,A.eval N,Q,binOp,PG O,bne]
end
def rcs (l:List Nat):List Value:=l.map fun(r:Nat)=>Value.int .i32 (r:Int)
theorem a6y{l sp}{k c:Nat}(h:l[k]?=some c):(rcs l++sp)[k]?=some (.int .i32 (c:Int)):=by
 obtain⟨A,_⟩:=aT.1 h;rw[aS (by simpa[rcs]using A)];simp[rcs,h]
section
variable {cx:Cx} {Q:Qt} {o:Oper} {e:Env} {I:Heap} {H:HL} {C:Ct} {S:World→Prop}
theorem XD{M T E d x l rs}(S:Conv.runesFrom ⟨l.toArray⟩ l.length 0 #[]=(rcs rs).toArray)(W:o.op= .convert M T x)(Z:o.dst=some d)(hn:aH d cx.n=true)(hx:ev e x=some (str l))
 (hS:cx.P.underlying M=some .string)(hT:cx.P.underlying T=some (.slice E))(hE:cx.P.underlying E=some (.int .i32))
 (k:∀b c sp,cx.w0.heap.size≤b→C ((d,.slice (some ⟨b,0,none⟩) rs.length c)::e) I ((b,jM E (rcs rs++sp))::H)):mF cx Q o e I H C:=by
 intro K hK a w N A;unfold aU
 let cap:=(bW rs.length 0 E).cut (w.tape w.drawn (.appendCap rs.length 0 E))
 let sp:List Value:=bU (cap-rs.length) (.int .i32 0)
 have O:(rcs rs).toArray.size=rs.length:=by simp[rcs]
 have G:(execOp a.eval o).run cx.P w= .ok (.value (.slice (some ⟨w.heap.size,0,none⟩) rs.length cap))
  { { w with drawn:=w.drawn+1 }with heap:=w.heap.push (jM E (rcs rs++sp)) }:=by
  have h0:(rcs rs).toArray++Array.replicate (cap-rs.length) (Value.int fH 0)=(rcs rs++sp).toArray:=by
   simp[sp]
  simp only[execOp,W,convert,N.eval hx,str,aB,run_underlying hS,run_underlying hT,aA,run_underlying hE,Conv.stringToRunes,size_mk,S,O,run_choose,Question.forced,newRow,run_newObj,aO,if_false,aG];rw[show(bW rs.length 0 E).cut (w.tape w.drawn (bW rs.length 0 E))=cap from rfl,h0];rfl
 rw[G];simp only[aI,Z];exact hK _ _ _ (k w.heap.size cap sp A.size) _ _ (N.put hn) ((A.drewN (w.drawn+1)).alloc _)
theorem b1t{base sz n xs g}(h:kZ base sz n xs g):∃p c,gV n g= .slice p n c:=by
 cases g with
 |none=>obtain⟨rfl,_⟩:=h;exact⟨none,0,rfl⟩
 |some q=>obtain⟨b,c,sp⟩:=q;exact⟨_,c,rfl⟩
theorem a6J{base sz n xs g}(h:kZ base sz n xs g){x T E}(A:o.op= .call ⟨.builtin .len,#[x],#[T]⟩)(G:ev e x=some (gV n g))(M:cx.P.underlying T=some (.slice E)):kX cx o e S (i64 (n:Int)):=by
 obtain⟨p,c,N⟩:=b1t h;exact xQ A (G.trans (zC some N)) M
theorem b0g{G T E x} r {b c}{cs:List Value}{t fr}(M:o.op= .convert G T x)(N:ev e x=some (.slice (some ⟨b,0,none⟩) 1 c))
 (O:cx.P.underlying G=some (.slice E))(Q:cx.P.underlying T=some .string)(W:cx.P.underlying E=some (.int .i32))(Z:jR S b (.cells cs.toArray t fr))(hl:cs[0]?=some (.int .i32 r)):
 kX cx o e S (str (Utf8.encode r).data.toList):=by
 intro a w ha hs;have hc:∀j v,[Value.int .i32 r][j]?=some v→w.cell? ((⟨b,0,none⟩:Addr).add j)=some v:=fun j v A=>by
  rw[bQ];refine cell_of_heap (Z w hs) ?_;cases j with
  |zero=>simp at A;subst A;simpa using hl
  |succ j=>simp at A
 have h1:=run_loadCells_list (P:=cx.P) (w:=w) ⟨b,0,none⟩ [Value.int .i32 r] hc;have h2:(loadCells ⟨b,0,none⟩ 1).run cx.P w= .ok #[Value.int .i32 r] w:=h1;simp only[execOp,M,convert,ha.eval N,aB,run_underlying O,run_underlying Q,aA,run_underlying W,Conv.runesToString,h2];simp[str]
end
section
variable {cx:Cx} {Q:Qt} {o:Oper} {e:Env} {I:Heap} {H:HL} {C:Ct} {S:World→Prop}
theorem SK{x y T U l m}(G:o.op= .binOp .lss T x y U)(M:ev e x=some (str l))(N:ev e y=some (str m)):kX cx o e S (.bool (decide (l<m))):=by
 intro a w A _;have h:=bI l m;simp[execOp,G,A.eval M,A.eval N,str,eqGuard_at_string,binOp,eH,h]
theorem a2m{x y T U l m}(G:o.op= .binOp .geq T x y U)(M:ev e x=some (str l))(N:ev e y=some (str m)):kX cx o e S (.bool (!decide (l<m))):=by
 intro a w A _;have h:=bI l m;simp[execOp,G,A.eval M,A.eval N,str,eqGuard_at_string,binOp,eH,h]
theorem b0A{x y T U l m}(G:o.op= .binOp .gtr T x y U)(M:ev e x=some (str l))(N:ev e y=some (str m)):kX cx o e S (.bool (!(decide (l<m) || l == m))):=by
 intro a w A _;have h:=bI l m;simp[execOp,G,A.eval M,A.eval N,str,eqGuard_at_string,binOp,eH,h]
end
theorem Le.mono{I J K}(h:Le I J)(k:Le J K):Le I K:=h.trans k
theorem Ej.a0r{A fn}{G:Ending→Heap→HL→Prop}{e I H H' t T b n}{cs:List Value}{W fr}(Z:Keeps H' H)(hr:fn.results= #[.cell t T])(M:A.ds=[])(hv:eg e t=some (ptr b 0))
 (hb:jR (SS I H) b (.cells cs.toArray W fr))(N:∀w,(isAgg T).run A.P w= .ok true w)(O:∀w,(sizeOf T).run A.P w= .ok n w)(hn:cs.length=n)(hp:G (.returned (.agg cs.toArray)) I H'):
 Ej A (bodyPost A.P fn (RR A.w0 A.D A.I0 G)) .ret e I H:=by
 intro a w Q S;refine⟨Q.defs.trans M,_,?_,I,H',S.sublist Z,hp⟩;have h1:=Q.get t _ hv;have hc:∀j v,cs[j]?=some v→w.cell? ((⟨b,0,none⟩:Addr).add j)=some v:=fun j v hj=>by
  rw[bQ];exact cell_of_heap (hb w S.ss) (by simpa using hj)
 have h2:=run_loadCells_list (P:=A.P) (w:=w) ⟨b,0,none⟩ cs hc;rw[hn]at h2;simp[results,hr,h1,asAddr,loadVar,N,O,h2]
end Go.Sx
namespace Go.Sx
open Go Go.Sort Go.Proofs
end Go.Sx
namespace Go.Sx
open Go
theorem DW{α:Type}{f:α→List Value}{n:Nat}(A:∀x,(f x).length=n){sp:List Value}:∀{l:List α} {k:Nat} {x:α},l[k]?=some x→((l.flatMap f++sp).drop (k*n)).take n=f x
 |[],_,_,h=>by simp at h
 |y::l,0,x,h=>by
  simp at h;subst h;rw[Nat.zero_mul,List.drop_zero,bG,cZ,←A y,fB]
 |y::l,k+1,x,h=>by
  have G:l[k]?=some x:=by simpa using h
  have:=DW A (sp:=sp) G;rw[bG,cZ,show(k+1)*n=(f y).length+k*n by rw[A y,Nat.add_mul];omega,←fC,List.drop_left];exact this
theorem a4O{α:Type}{f:α→List Value}{n:Nat}(A:∀x,(f x).length=n){sp:List Value}{l:List α}{k:Nat}{x:α}(h:l[k]?=some x)(j:Nat)(G:j<n):(l.flatMap f++sp)[k*n+j]?=(f x)[j]?:=by
 rw[←DW A (sp:=sp) h,List.getElem?_take,zF G,dY]
theorem kY{α:Type}{f n}(A:∀x,(f x).length=n){cs sp:List Value}{o}{l:List α}(h:cs.drop o=l.flatMap f++sp){k x}(G:l[k]?=some x):(cs.drop (o+k*n)).take n=f x:=by
 rw[←fC,h];exact DW A G
theorem lW{α:Type}{f n}(A:∀x,(f x).length=n){cs sp:List Value}{o}{l:List α}(h:cs.drop o=l.flatMap f++sp){k x}(G:l[k]?=some x) j (M:j<n):cs[o+k*n+j]?=(f x)[j]?:=by
 rw[←a4O A (sp:=sp) G j M,←h,dY,fF]
def jW {α:Type} (f:α→List Value) (I:Heap) (l:List α) (v:Value):Prop:=
 ∃p c,v= .slice p l.length c∧l.length≤c∧(l≠[]→∃b o cs t fr sp,p=some ⟨b,o,none⟩∧I b=some (.cells (List.toArray cs) t fr)∧cs.drop o=l.flatMap f++sp)
theorem jW.mono{α:Type}{f:α→List Value}{I A:Heap}{l:List α}{v:Value}(h:jW f I l v)(G:Le I A):jW f A l v:=
 let ⟨p,c,h1,h2,h3⟩:=h;⟨p,c,h1,h2,fun M=>let ⟨b,o,cs,t,fr,sp,N,O,Q⟩:=h3 M;⟨b,o,cs,t,fr,sp,N,G _ _ O,Q⟩⟩
theorem jW.of{α:Type}{f:α→List Value}{I:Heap}{l:List α}{T b c:Nat}{sp:List Value}(A:l.length≤c)(G:I b=some (jM T (l.flatMap f++sp))):jW f I l (.slice (some ⟨b,0,none⟩) l.length c):=
 ⟨_,c,rfl,A,fun _=>⟨b,0,_,T,_,sp,rfl,G,rfl⟩⟩
theorem jW.nil{α:Type}{f I}:jW f I ([]:List α) (.slice none 0 0):=⟨none,0,rfl,Nat.le_refl _,fun h=>absurd rfl h⟩
theorem jT{α:Type}{l:List α}{k}(h:k<l.length):l≠[]:=fun e=>by rw[e]at h;simp at h
theorem Cj.join{A Q x y e I H}{ι:Type}(G:ι→Prop)(M:ι→Env)(O:ι→Heap)(S:ι→HL)(W:∀i,G i→Cj A Q y (M i) (O i) (S i))
 (Z:(∀j e' N H',G j→Sub (M j) e'→O j=N→S j=H'→Ej A (Exit.then (y.wpIn A.F 0 A.P Q) Q) .normal e' N H')→Cj A (Exit.then (y.wpIn A.F 0 A.P Q) Q) x e I H):Cj A Q (.seq x y) e I H:=
 Cj.seq (Z fun j e' N H' hj hs hI hH=>Ej.seq (by subst hI hH;exact Cj.weak hs (W j hj)))
theorem mG{α:Type}{f:α→List Value}{sz}(A:∀x,(f x).length=sz):∀l:List α,(l.flatMap f).length=l.length*sz
 |[]=>sI
 |a::r=>by rw[bG,dV,A a,mG A r,List.length_cons,Nat.add_mul];omega
theorem tX{α:Type}(f:α→List Value) l x:(l++[x]).flatMap f=l.flatMap f++f x:=sI
section
variable {cx:Cx} {Q:Qt} {e:Env} {I:Heap} {R:HL} {T:TypeId} {α:Type} {l:List α} {f:α→List Value} {sz n base:Nat} {g:Gs}
theorem a4d{X:Heap→HL→Prop}(O:∀x,(f x).length=sz)(G:0<sz)(M:kZ base sz n (l.flatMap f) g)(Q:n=l.length)(S:∀b o,base≤b→(∀A,Le I A→A b=some o→X A R)→X I ((b,o)::R))(k:∀A,Le I A→jW f A l (gV n g)→X A R):X I (gH T (l.flatMap f) g++R):=by
 subst Q;cases g with
 |none=>
  obtain⟨h1,h2⟩:=M;have:l=[]:=dG.1 h1;subst this;exact k I (dM _) jW.nil
 |some q=>
  obtain⟨b,c,sp⟩:=q;obtain⟨h1,h2,h3⟩:=M;have W:l.length≤c:=by
   rw[mG O]at h3;exact bZ (oM:l.length*sz≤c*sz) G
  exact S b _ h1 fun A N Z=>k A N ⟨_,c,rfl,W,fun _=>⟨b,0,_,T,_,sp,rfl,Z,rfl⟩⟩
theorem Cj.keepR{c}(M:∀x,(f x).length=sz)(A:0<sz)(N:kZ cx.w0.heap.size sz n (l.flatMap f) g)(O:n=l.length)(k:∀G,Le I G→jW f G l (gV n g)→Cj cx Q c e G R):Cj cx Q c e I (gH T (l.flatMap f) g++R):=
 a4d (X:=fun I H=>Cj cx Q c e I H) M A N O (fun _ _ S k=>fA S k) k
theorem Ej.keepR{x}(M:∀x,(f x).length=sz)(A:0<sz)(N:kZ cx.w0.heap.size sz n (l.flatMap f) g)(O:n=l.length)(k:∀G,Le I G→jW f G l (gV n g)→Ej cx Q x e G R):Ej cx Q x e I (gH T (l.flatMap f) g++R):=
 a4d (X:=fun I H=>Ej cx Q x e I H) M A N O (fun _ _ S k=>Ej.persist S k) k
theorem SY n g:aY (gV n g)=true:=by
 cases g with
 |none=>rfl
 |some q=>obtain⟨b,c,sp⟩:=q;rfl
end
section
variable {cx:Cx} {o:Oper} {e:Env} {S:World→Prop}
theorem OH{x y}{T E n c sz j:Nat}{b kl}(M:o.op= .slice T x none (some y) none)(N:ev e x=some (.slice b n c))(O:ev e y=some (.int kl (j:Int)))(Q:cx.P.underlying T=some (.slice E))(G:∀w,(sizeOf E).run cx.P w= .ok sz w)(W:j≤c):
 kX cx o e S (.slice b j c):=by
 intro a w A _;have h1:(j:Int)≤c:=oM;cases b with
 |none=>simp[execOp,M,A.eval N,A.eval O,dS,eG,run_underlying Q,cO,run_sliceBound,h1,G]
 |some q=>
  simp[execOp,M,A.eval N,A.eval O,dS,eG,run_underlying Q,cO,run_sliceBound,h1,G,Addr.add]
end
theorem jW.take{α:Type}{f:α→List Value}{I:Heap}{l:List α}{p:Option Addr}{c:Nat}(h:jW f I l (.slice p l.length c)){m:Nat}(A:m≤l.length):jW f I (l.take m) (.slice p m c):=by
 obtain⟨_,_,G,_,M⟩:=h;cases G;refine⟨p,c,by rw[eU,eX A],by rw[eU];omega,fun N=>?_⟩;have O:l≠[]:=fun e=>N (by rw[e];simp);obtain⟨b,o,cs,t,fr,sp,h1,h2,h3⟩:=M O;refine⟨b,o,cs,t,fr,(l.drop m).flatMap f++sp,h1,h2,?_⟩;rw[h3,←cZ,←List.flatMap_append,List.take_append_drop]
theorem a1J{α:Type}(A G M:List α):(A++(M++G)).Perm (A++(G++M)):=List.Perm.append_left A aJ
theorem a5h{α:Type}{f}:∀{l:List α},(∀x∈l,(f x).all aY=true)→(l.flatMap f).all aY=true
 |[],_=>rfl
 |a::r,h=>by rw[bG,List.all_append,h a (.head _),a5h fun x A=>h x (.tail _ A)];rfl
theorem Src.row{P I H}{α:Type}{f:α→List Value}{sz:Nat}{l v}(G:∀x,(f x).length=sz)(h:jW f I l v)(h1:∀x∈l,(f x).all aY=true):Src P I H sz l.length v (l.flatMap f):=by
 obtain⟨p,c,rfl,_,M⟩:=h;cases l with
 |nil=>exact Src.nil
 |cons a r=>
  obtain⟨b,o,cs,t,fr,sp,rfl,h2,h3⟩:=M sI;have A:=mG G (a::r);exact Src.slice (jR.EH h2) (by rw[h3,←A,fB]) A (a5h h1)
def CO:HL→Heap→Heap
 |[],I=>I
 |(b,o)::r,I=>hput b o (CO r I)
theorem GV:∀{H:HL} {I:Heap},(H.map (·.1)).Nodup→∀p∈H,CO H I p.1=some p.2
 |[],_,_,p,hp=>by cases hp
 |(b,o)::r,I,hn,p,hp=>by
  rw[bY,List.nodup_cons]at hn;unfold CO hput;rcases dU.1 hp with e|e
  ·rw[e];simp
  have:p.1≠b:=fun g=>hn.1 (by rw[←g];exact bT (f:=(·.1)) e);rw[zD this];exact GV hn.2 p e
theorem CY:∀{H:HL} {I:Heap} {b:Nat},b ∉ H.map (·.1)→CO H I b=I b
 |[],_,_,_=>rfl
 |(c,o)::r,I,b,h=>by
  rw[bY,dU,not_or]at h;unfold CO hput;rw[zD h.1];exact CY h.2
theorem a3D{H I}(G:∀p∈H,I p.1=none):Le I (CO H I):=fun b o A=>by
 by_cases h:b∈H.map (·.1)
 ·obtain⟨p,M,rfl⟩:=aZ.1 h;rw[G p M]at A;cases A
 rw[CY h];exact A
def hless (H:HL) (J:Heap):Heap:=fun b=>if b∈H.map (·.1)then none else J b
theorem b0e{H J b}(h:b ∉ H.map (·.1)):hless H J b=J b:=zD h
theorem jO.borrow{P f args I B}{O:Ending→Heap→HL→Prop}(h:jO P f args (CO B I) [] O):
 jO P f args I B (fun e I' H'=>∃J K,O e J K∧H'=B++K∧I'=hless B J∧∀p∈B,J p.1=some p.2):=by
 refine⟨h.1,fun w hw=>?_⟩;obtain⟨r1,r2,Q,r4⟩:=hw;have hr:Ready (CO B I) [] w:=by
  unfold Ready;refine⟨fun b o G=>?_,(fun p A=>by cases A),List.Pairwise.nil,(fun p A=>by cases A)⟩
  by_cases M:b∈B.map (·.1)
  ·obtain⟨p,A,rfl⟩:=aZ.1 M;rw[GV Q p A]at G;cases G;exact r2 p A
  rw[CY M]at G;exact r1 b o G
 refine(h.2 w hr).mono ?_;rintro e w' ⟨J,K,N,A⟩;have S:∀p∈B,J p.1=some p.2:=fun p A=>N.le _ _ (GV Q p A);have a1:∀p∈B,p.1<w.heap.size:=fun p A=>by
  have:=r2 p A;rcases dA p.1 w.heap.size with g|g
  ·exact g
  rw[dJ g]at this;cases this
 have a0:∀q∈K,q.1 ∉ B.map (·.1):=fun q W M=>by
  obtain⟨p,A,Z⟩:=aZ.1 M;have:=N.dis q W;rw[←Z,S p A]at this;cases this
 refine⟨hless B J,B++K,⟨N.os,N.tape,N.output,N.size,fun b G _=>N.frm b G sI,fun b o G=>?_,fun p A=>?_,?_,fun p A=>?_,fun p A=>?_,fun b G=>?_,fun b o G=>?_,WU⟩,J,K,A,rfl,rfl,S⟩
 ·unfold hless at G
  split at G
  ·cases G
  exact N.sub b o G
 ·rcases dI.1 A with g|g
  ·exact N.sub _ _ (S p g)
  exact N.own p g
 ·rw[aW,aQ];refine⟨Q,N.nodup,fun x hx y hy Z=>?_⟩;obtain⟨q,W,rfl⟩:=aZ.1 hy;exact a0 q W (Z▸hx)
 ·unfold hless
  split
  ·rfl
  rename_i M
  rcases dI.1 A with g|g
  ·exact absurd (bT g) M
  exact N.dis p g
 ·rcases dI.1 A with g|g
  ·exact .inl (bT g)
  rcases N.new p g with k|k
  ·cases k
  exact .inr k
 ·unfold hless
  split
  ·rename_i M
   obtain⟨p,A,rfl⟩:=aZ.1 M;exact(r4 p A).symm
  rename_i M
  rw[N.ifr b G,CY M]
 have M:b ∉ B.map (·.1):=fun M=>by
  obtain⟨p,A,rfl⟩:=aZ.1 M;rw[r4 p A]at G;cases G
 rw[b0e M];exact N.le b o (by rw[CY M];exact G)
theorem jO.a1y{P f args I H}{A:Ending→Heap→HL→Prop}(M:Enters P f)(h:(H.map (·.1)).Nodup→(∀p∈H,I p.1=none)→jO P f args I H A):jO P f args I H A:=
 ⟨M,fun w G=>(h G.2.2.1 G.2.2.2).2 w G⟩
section
variable {cx:Cx} {Q:Qt} {e:Env} {I:Heap} {R:HL}
theorem GL{X:Heap→HL→Prop}{base}(G:∀I b o R,base≤b→(∀A,Le I A→A b=some o→X A R)→X I ((b,o)::R)):∀(B:HL) (I:Heap),(∀p∈B,base≤p.1)→(∀A,Le I A→(∀p∈B,A p.1=some p.2)→X A R)→X I (B++R)
 |[],I,_,k=>k I (dM _) fun p G=>by cases G
 |(b,o)::r,I,hb,k=>G I b o (r++R) (hb _ (.head _)) fun A N Q=>GL G r A (fun p G=>hb p (.tail _ G)) fun S M O=>k S (N.trans M) fun p G=>by
  rcases dU.1 G with g|g
  ·rw[g];exact M _ _ Q
  exact O p g
theorem J.persists{A l} B (G:∀p∈B,cx.w0.heap.size≤p.1)(k:∀M,Le I M→(∀p∈B,M p.1=some p.2)→J cx Q A l e M R):J cx Q A l e I (B++R):=
 GL (X:=fun I H=>J cx Q A l e I H) (fun _ _ _ _ G k=>J.persist G k) B I G k
end
def wH {α:Type} (T:TypeId) (f:α→List Value) (I:Heap) (l:List α) (v:Value):Prop:=
 ∃p c,v= .slice p l.length c∧l.length≤c∧(l≠[]→∃b sp,p=some ⟨b,0,none⟩∧I b=some (jM T (l.flatMap f++sp)))
theorem wH.mono{α:Type}{T:TypeId}{f:α→List Value}{I A:Heap}{l:List α}{v:Value}(h:wH T f I l v)(G:Le I A):wH T f A l v:=
 let ⟨p,c,h1,h2,h3⟩:=h;⟨p,c,h1,h2,fun M=>let ⟨b,sp,N,O⟩:=h3 M;⟨b,sp,N,G _ _ O⟩⟩
theorem wH.row{α:Type}{T:TypeId}{f:α→List Value}{I:Heap}{l:List α}{v:Value}(h:wH T f I l v):jW f I l v:=
 let ⟨p,c,h1,h2,h3⟩:=h;⟨p,c,h1,h2,fun A=>let ⟨b,sp,G,M⟩:=h3 A;⟨b,0,_,T,_,sp,G,M,rfl⟩⟩
theorem wH.nil{α:Type}{T f I}:wH T f I ([]:List α) (.slice none 0 0):=⟨none,0,rfl,Nat.le_refl _,fun h=>absurd rfl h⟩
section
variable {cx:Cx} {Q:Qt} {e:Env} {I:Heap} {R:HL} {T:TypeId} {α:Type} {l:List α} {f:α→List Value} {sz n base:Nat} {g:Gs}
theorem b2m{X:Heap→HL→Prop}(O:∀x,(f x).length=sz)(G:0<sz)(M:kZ base sz n (l.flatMap f) g)(Q:n=l.length)(S:∀b o,base≤b→(∀A,Le I A→A b=some o→X A R)→X I ((b,o)::R))(k:∀A,Le I A→wH T f A l (gV n g)→X A R):X I (gH T (l.flatMap f) g++R):=by
 subst Q;cases g with
 |none=>
  obtain⟨h1,h2⟩:=M;have:l=[]:=dG.1 h1;subst this;exact k I (dM _) wH.nil
 |some q=>
  obtain⟨b,c,sp⟩:=q;obtain⟨h1,h2,h3⟩:=M;have W:l.length≤c:=by
   rw[mG O]at h3;exact bZ (oM:l.length*sz≤c*sz) G
  exact S b _ h1 fun A N Z=>k A N ⟨_,c,rfl,W,fun _=>⟨b,sp,rfl,Z⟩⟩
theorem Cj.b6V{c}(M:∀x,(f x).length=sz)(A:0<sz)(N:kZ cx.w0.heap.size sz n (l.flatMap f) g)(O:n=l.length)(k:∀G,Le I G→wH T f G l (gV n g)→Cj cx Q c e G R):Cj cx Q c e I (gH T (l.flatMap f) g++R):=
 b2m (X:=fun I H=>Cj cx Q c e I H) M A N O (fun _ _ S k=>fA S k) k
end
theorem St.b6X{w0 w D A I0 I H}(h:St w0 D I0 I H w)(G:∀b,b∈D↔b∈A):St w0 A I0 I H w:=
 ⟨h.os,h.tape,h.output,h.size,fun b M N=>h.frm b M (fun g=>N ((G b).1 g)),h.sub,h.own,h.nodup,h.dis,fun p O=>(h.new p O).imp (G p.1).1 id,h.ifr,h.le,h.drw⟩
theorem jO.perm{P f args I H H1}{A:Ending→Heap→HL→Prop}(G:H1.Perm H)(h:jO P f args I H1 A):jO P f args I H A:=
 ⟨h.1,fun w M=>by
  obtain⟨N,O,Q,S⟩:=M;have W:Ready I H1 w:=⟨N,fun p g=>O p (G.mem_iff.1 g),(G.map _).nodup_iff.2 Q,fun p g=>S p (G.mem_iff.1 g)⟩;refine(h.2 w W).mono ?_;rintro e w' ⟨Z,K,hk,hq⟩;exact⟨Z,K,hk.b6X (fun b=>(G.map _).mem_iff),hq⟩⟩
theorem jO.leave{P f args I H}{M A:Ending→Heap→HL→Prop}(h:jO P f args I H M)(Q:∀e G H',Le I G→M e G H'→∃K S,(K++S).Perm H'∧A e G K):jO P f args I H A:=
 ⟨h.1,fun w W=>(h.2 w W).mono fun e w' ⟨G,H',N,Z⟩=>by
  obtain⟨K,S,hk,O⟩:=Q e G H' N.le Z;exact⟨G,K,(N.perm hk).sublist (List.sublist_append_left K S),O⟩⟩
section
variable {cx:Cx} {Q:Qt} {o:Oper} {e:Env} {I:Heap} {H:HL} {C:Ct}
theorem wQ{H1} R {d f fo xs ts fst cap vs}{M:Ending→Heap→HL→Prop}(S:H=R++H1)
 (ho:o.op= .call ⟨.value fo,xs.toArray,ts⟩)(hd:o.dst=some d)(hn:aH d cx.n=true)(hf:ev e fo=some (.func (.func f) fst.toArray cap.toArray))(hx:evs e xs=some vs)
 (W:jO cx.P f (fst++vs++cap) I H1 M)
 (k:∀v G A,Le I G→M (.returned v) G A→C ((d,v)::e) G (R++A))
 (kp:∀O G A,Le I G→M (.panicked O) G A→Ej cx Q (.panic O) e G (R++A))
 (ko:∀G A,¬M .outgrown G A):mF cx Q o e I H C:=by
 subst S;refine mF.perm (H':=H1++R) aJ fun K hK=>?_
 exact kT (C:=fun e' G H'=>∃A,H'=A++R∧C e' G (R++A)) ho hd hn hf hx W (fun v G A N Z=>⟨A,rfl,k v G A N Z⟩) (fun O G A N Z=>Ej.perm aJ (kp O G A N Z)) ko K
  fun e' G H' ⟨A,S,hC⟩ a w ha W=>hK e' G (R++A) hC a w ha (by subst S;exact W.perm aJ)
end
section
variable {cx:Cx} {Q:Qt} {o:Oper} {e:Env} {I:Heap} {H:HL} {C:Ct}
theorem a3H{α:Type}[BEq α]{kv:α→Value}{a}{T U:Nat}{m x:Operand}{K E}{G:Value}(O:o.op= .call ⟨.builtin .delete,#[m,x],#[T,U]⟩)(S:o.dst=none)(W:ev e m=some (.map none))(Z:ev e x=some G)(M:G=kv a)(hT:cx.P.underlying T=some (.map K E))(hK:mY cx.P K kv)(kk:C e I H):mF cx Q o e I H C:=by
 intro _ N w0 w A hs;unfold aU;subst M;have:(execOp w0.eval o).run cx.P w= .ok (.value (.tuple #[])) w:=by
  simp[execOp,O,resolve,invoke,builtin,A.eval W,A.eval Z,Builtin.delete_,run_underlying hT,hK.2.1]
 rw[this];simp only[aI,S];exact N _ _ _ kk _ _ A.AZ hs
