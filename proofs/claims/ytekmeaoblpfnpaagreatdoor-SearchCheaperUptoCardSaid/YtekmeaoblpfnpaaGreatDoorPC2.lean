/-
  Own texts on the laws of the seat, joined: the logic, and contracts of functions. Conditions: none.
-/
import Derived.Test.YtekmeaoblpfnpaaGreatDoorPC1
import Derived.Laws.RangeAny
import Derived.Scope
import Derived.Below
import Derived.Lib.Builder
import Derived.Lib.UnsafeStr
import Derived.Laws.Externs
import Derived.Recover
import Derived.Laws.MakeOwn
import Derived.LoopN
import Derived.RangeFuncRecord
import Derived.Sort.Walk0
import Derived.Sort.Grow
import Derived.Sort.EncStr
import Derived.Maps.RangeRun
import Derived.Laws.StructEq
set_option linter.all false
set_option maxRecDepth 100000
set_option maxHeartbeats 40000000
open Go.Result renaming andThen_ok -> aA,andThen -> bY
open Go.Sem renaming run_bind -> aB,run_pure -> aN,run -> bW
open Go.Instr renaming checkKey -> aC,sameBits -> aP,findKey -> aU,findNow -> bQ,sameNow -> bT,sliceBounds -> dA,findAsking -> dG,lookup -> dH,mapUpdate -> dK,next -> dV,sliceAt -> dW,keyThatStays -> dZ,slice -> eP
open List renaming mem_of_getElem? -> aF,mem_append_left -> aG,mem_map_of_mem -> aI,nodup_append -> aK,perm_append_comm -> aO,map_append -> aS,mem_map -> aT,getElem?_eq_some_iff -> aW,getElem?_append_right -> bF,getElem?_append_left -> bG,mem_append -> bH,flatMap_cons -> bJ,append_assoc -> bK,map_toArray -> bU,perm_middle -> bV,map_cons -> cO,mem_toArray -> dI,length_eq_zero_iff -> dJ,sublist_cons_self -> dN,replicate -> dR,mem_cons -> dX,length_append -> dY,getElem?_drop -> eF,getElem?_set -> eG,getElem?_map -> eH,not_mem_nil -> eX,length_take -> eY,take_left -> fE,drop_drop -> fF
open Go.Oper renaming upon -> aH,wp -> aV
open Nat renaming blt -> aJ,le_of_mul_le_mul_right -> cZ,lt_or_ge -> dB,min_eq_left -> fB,add_assoc -> fK
open Go.Sx.World renaming block -> aQ
open Go.Op renaming equalIn -> aX,stringOp -> eU
open Go.Fence renaming wide -> aY
open Bool renaming false_eq_true -> aZ
open Go.Value renaming oneCell' -> bC,func -> fC
open Go.Deferred renaming ofValue -> bD
open Option renaming isSome_iff_exists -> bI,map_eq_some_iff -> bM
open Go.Proofs renaming bytesLess_eq -> bP
open Array renaming ext_getElem? -> bZ,getElem?_eq_none -> dL,getElem?_modify -> dQ,mem_filter -> fA,contains -> fG
open Go.Addr renaming add_lit -> dD
open Go.Sx.St renaming start -> dF
open Go.Utf8 renaming decode -> dM
open Go.Sx.Le renaming refl -> dP
open Go.Sx.yX renaming z -> dS
open List.Perm renaming append_left -> dU
open Go.Sx.Cj renaming persist -> fD
open Prod.mk renaming injEq -> fH
open Go.World renaming frozen? -> fJ
open Go.Builtin renaming len_ -> fM
open Go.Extern.AbiNoEscape renaming same -> fO
namespace Go.Sx
open Go Go.RowKit
theorem St.below{w w' I}(W:Ready I [] w)(h:Below w.heap.size w w'):St w [] I I [] w':=by
 have Z:∀{b:Nat} {o':Obj},w.heap[b]?=some o'→b<w.heap.size:=fun {b o'} N=>by
  rcases dB b w.heap.size with O|O
  ·exact O
  simp[dL O]at N
 exact⟨h.os,h.tape,h.output,h.size,fun b N _=>h.block b N,fun b o N=>by rw[h.block b (Z (W.1 b o N))];exact W.1 b o N,sI,sI,sI,sI,fun _ _=>rfl,dP _,a3p⟩
theorem Pure.of_below{P f args I v}(O:Enters P f)(h:∀w,Ready I [] w→Calls P f args.toArray w fun e w'=>e= .returned v∧Below w.heap.size w w'):Pure P f args I v:=
 ⟨O,fun w N=>(h w N).mono fun _ _ ⟨h1,h2⟩=>⟨I,[],St.below N h2,h1,rfl,rfl⟩⟩
theorem Pure.of_same{P f args I v}(N:Enters P f)(h:∀w,Ready I [] w→Calls P f args.toArray w fun e w'=>e= .returned v∧w'=w):Pure P f args I v:=
 Pure.of_below N fun w O=>(h w O).mono fun _ _ ⟨h1,h2⟩=>⟨h1,h2▸Below.refl _ _⟩
theorem Enters.of{P f fn}(h:P.funcs[f]?=some fn)(h1:fn.name≠ "runtime.NumGoroutine")(h2:fn.body.isNone=false):Enters P f:=⟨fn,h,h1,h2⟩
section
variable {cx:Cx} {Q:Qt} {e:Env} {I:Heap} {H:HL} {o:Oper} {C:Ct} {S:World→Prop}
theorem Cj.scope{c}(h:Cj cx (Exit.noGoto Q) c e I H)(N:cx.rd=none:=by rfl):Cj cx Q (.scope c) e I H:=Cj.of_wp N fun _ _ O W=>wp_scope_straight (h.wp N O W)
theorem Ej.b7u(h:Ej cx Q .ret e I H):Ej cx (Exit.noGoto Q) .ret e I H:=h
theorem a0w{T d x s}(W:o.op= .range T x)(Z:o.dst=some d)(hn:aJ d cx.n=true)(hx:ev e x=some (.string s))(hu:cx.P.underlying T=some .string)
 (k:∀b,cx.w0.heap.size≤b→C ((d,ptr b 0)::e) I ((b,.stringIter s 0)::H)):BZ cx Q o e I H C:=by
 intro K hK a w N O;unfold aV;have:(execOp a.eval o).run cx.P w= .ok (.value (ptr w.heap.size 0)) { w with heap:=w.heap.push (.stringIter s 0) }:=by
  simp only[execOp,W,N.eval hx,aB,run_range_string w T s hu,aA,aN];rfl
 rw[this];simp only[aH,Z];exact hK _ _ _ (k _ O.size) _ _ (N.put hn) (O.alloc _)
theorem a2v{d b pos x s H'} i (ho:o.op= .next x true)(hd:o.dst=some d)(hn:aJ d cx.n=true)(hx:ev e x=some (ptr b 0))(N:H[i]?=some (b,.stringIter s pos))(hp:pos<s.size)
 (O:yX H i (b,.stringIter s (pos+(dM s pos).2)) H')(k:C ((d,.tuple #[.bool true,.int .i64 pos,.int .i32 (dM s pos).1])::e) I H'):BZ cx Q o e I H C:=by
 intro K hK a w W Z;unfold aV;have hb:=Z.own _ (aF N);have:(execOp a.eval o).run cx.P w= .ok (.value (.tuple #[.bool true,.int .i64 pos,.int .i32 (dM s pos).1])) (aQ w b (.stringIter s (pos+(dM s pos).2))):=by
  simp only[execOp,ho,W.eval hx,dV,getObj,setObj,aB,bW,hb,bY,hp,if_true];simp[goInt,aQ]
 rw[this];simp only[aH,hd];exact hK _ _ _ k _ _ (W.put hn) (Z.block N O)
theorem VH{d b pos x s}(i:Nat)(W:o.op= .next x true)(Z:o.dst=some d)(hn:aJ d cx.n=true)(hx:ev e x=some (ptr b 0))(hH:H[i]?=some (b,.stringIter s pos))(hp:¬pos<s.size)
 (k:C ((d,.tuple #[.bool false])::e) I H):BZ cx Q o e I H C:=by
 intro K hK a w N O;unfold aV;have hb:=O.own _ (aF hH);have:(execOp a.eval o).run cx.P w= .ok (.value (.tuple #[.bool false])) w:=by
  simp[execOp,W,N.eval hx,dV,getObj,aB,bW,hb,bY,hp]
 rw[this];simp only[aH,Z];exact hK _ _ _ k _ _ (N.put hn) O
theorem b2j{N T x k r}(O:o.op= .convert N T x)(W:ev e x=some (.int k r))(Z:cx.P.underlying N=some (.int k))(hT:cx.P.underlying T=some .string):BH cx o e S (str (Utf8.encode r).data.toList):=by
 intro a w ha _;simp[execOp,O,ha.eval W,convert,run_underlying Z,run_underlying hT,str,Conv.intToString]
end
end Go.Sx
namespace Go.Sx
open Go
theorem UL{w:World}{b cs t fr}(h:w.heap[b]?=some (.cells cs t fr)):w.shape? b=some (t,cs.size):=by simp[World.shape?,h]
theorem yY.still{P f args I H}{N:Ending→HL→Prop}(h:yY P f args I H (fun e _ H'=>N e H')):yY P f args I H (fun e O H'=>I=O∧N e H'):=h.forget fun _ _ _ _ W=>⟨rfl,W⟩
theorem a0A n g:(gV n g).cells=[gV n g].toArray:=by cases g<;>rfl
theorem a7X n g:[gV n g].all bC=true:=by cases g<;>rfl
section
variable {cx:Cx} {Q:Qt} {e:Env} {I:Heap} {H:HL} {o:Oper} {C:Ct} {S:World→Prop}
theorem b1h{P w T N j} p (O:P.underlying T=some (.pointer N))(W:P.info? N=some j):(binOp .eql T (.pointer p) (.pointer none)).run P w= .ok (.bool p.isNone) w:=by
 have h:∀d:Nat,(aX (d+1) T (.pointer p) (.pointer none)).run P w= .ok p.isNone w:=fun d=>by
  cases p<;>simp[aX,run_underlying O,sizeOf,typeInfo,samePointer]
 simp only[binOp];simp[Op.equal,Op.maxDepth,h 9999]
theorem b2I{x y T U N} p (Z:o.op= .binOp .eql T x y U)(hx:ev e x=some (.pointer p))(hy:ev e y=some (.pointer none))(hT:cx.P.underlying T=some (.pointer N))(O:(cx.P.info? N).isSome=true):BH cx o e S (.bool p.isNone):=by
 intro a w W _;obtain⟨j,hj⟩:=bI.1 O;have hb:=b1h (P:=cx.P) (w:=w) p hT hj;have hg:eqGuard .eql T x y (.pointer p) (.pointer none)=pure ():=rfl;simp[execOp,Z,W.eval hx,W.eval hy,hb,hg]
theorem b1S{x y T U N b off}(Z:o.op= .binOp .neq T x y U)(hx:ev e x=some (ptr b off))(hy:ev e y=some (ptr b off))(hT:cx.P.underlying T=some (.pointer N))(O:(cx.P.info? N).isSome=true):BH cx o e S (.bool false):=by
 intro a w W _;obtain⟨j,hj⟩:=bI.1 O;have hb:=Lib.run_neq_ptr_same (P:=cx.P) w ⟨b,off,none⟩ hT hj;have hg:eqGuard .neq T x y (ptr b off) (ptr b off)=pure ():=rfl;simp[execOp,Z,W.eval hx,W.eval hy,hb,hg]
theorem a9w{x O T W b off} z {cs:List Value}{t fr}(ho:o.op= .convert O T x)(hx:ev e x=some (ptr b off))(hS:cx.P.underlying O=some (.pointer W))(hT:cx.P.underlying T=some .unsafePointer)(Z:(cx.P.info? W).map (·.size)=some (z+1))
 (hb:yZ S b (.cells cs.toArray t fr))(N:off<cs.length):BH cx o e S (ptr b off):=by
 intro a w ha hs;obtain⟨j,hj,hz⟩:=bM.1 Z;have hz:j.size≠0:=oM;have h:=Lib.run_to_unsafe (P:=cx.P) (w:=w) ⟨b,off,none⟩ hS hT hj hz (UL (hb w hs)) (by simpa using N);simp[execOp,ho,ha.eval hx,h]
theorem a6w{x O T N b off}{cs:List Value}{t fr}(Z:o.op= .convert O T x)(hx:ev e x=some (ptr b off))(hS:cx.P.underlying O=some .unsafePointer)(hT:cx.P.underlying T=some (.pointer N))(W:(cx.P.info? N).isSome=true)
 (hb:yZ S b (.cells cs.toArray t fr))(hl:liesAt cx.P cx.P.depth t (cs.length / cx.P.cellsOf t) off N 1=true):BH cx o e S (ptr b off):=by
 intro a w ha hs;obtain⟨j,hj⟩:=bI.1 W;have h:=Lib.run_from_unsafe (P:=cx.P) (w:=w) ⟨b,off,none⟩ hS hT hj (UL (hb w hs)) (by simpa using hl);simp[execOp,Z,ha.eval hx,h]
theorem a9R{f fn N x ts v}(W:o.op= .call ⟨.value N,#[x],ts⟩)(Z:ev e N=some (.func (.func f) #[] #[]))(hx:ev e x=some v)(h1:cx.P.funcs[f]?=some fn)(h2:(fn.name == "runtime.NumGoroutine")=false)(h3:fn.body.isNone=true)
 (h4:Extern.findNext fn=none)(h5:Extern.find fn=some fO):BH cx o e S v:=by
 intro a w O _;have h:=run_callFunc_extern h1 h2 h3 h4 h5 #[v] w;simp[execOp,W,resolve,invoke,O.eval Z,O.eval hx,h,bD,Lib.run_noEscape,bY]
theorem a8H{x T b off n c}(N:o.op= .call ⟨.builtin .unsafeSliceData,#[x],#[T]⟩)(O:ev e x=some (.slice (some ⟨b,off,none⟩) n c))(W:c≠0):BH cx o e S (ptr b off):=by
 intro a w Z _;have h:=fun ty=>Lib.run_unsafeSliceData_row (P:=cx.P) (w:=w) #[T] ty ⟨b,off,none⟩ n c W;simp[execOp,N,resolve,invoke,Z.eval O,builtin,h]
theorem a3V{x T n c}(N:o.op= .call ⟨.builtin .unsafeSliceData,#[x],#[T]⟩)(O:ev e x=some (.slice none n c)):BH cx o e S (.pointer none):=by
 intro a w W _;have h:=fun Z=>Lib.run_unsafeSliceData_nil (P:=cx.P) (w:=w) #[T] Z n c;simp[execOp,N,resolve,invoke,W.eval O,builtin,h]
theorem a1c{x y p T U}(O:o.op= .call ⟨.builtin .unsafeString,#[x,y],#[T,U]⟩)(W:ev e x=some (.pointer p))(Z:ev e y=some (i64 0)):BH cx o e S (str []):=by
 intro a w N _;have h:=fun ty=>Lib.run_unsafeString_none (P:=cx.P) (w:=w) T U ty p;simp[execOp,O,resolve,invoke,N.eval W,N.eval Z,builtin,h];rfl
theorem a3T{x y T U E d b} i l {cs H'}(ho:o.op= .call ⟨.builtin .unsafeString,#[x,y],#[T,U]⟩)(hd:o.dst=some d)(hn:aJ d cx.n=true)(hx:ev e x=some (ptr b 0))(hy:ev e y=some (i64 l.length))
 (hT:cx.P.underlying T=some (.pointer E))(hE:cx.P.cellsOf E=1)(N:H[i]?=some (b,zJ E (CW l++cs)))(h0:l≠[])(a0:l.length≤9223372036854775807)(a1:yX H i (b,.cells (CW l++cs).toArray E (0,l.length)) H')(k:C ((d,str l)::e) I H'):BZ cx Q o e I H C:=by
 intro K hK a w O W;unfold aV;have Z:=W.own _ (aF N);have h:=fun ty=>Lib.run_unsafeString_row (P:=cx.P) (w:=w) T U ty E hT hE b (CW l++cs).length (by rw[UL Z];simp) l h0 (by rw[dY,NT];omega) a0 (fun j x hj=>by
  rw[dD];refine cell_of_heap Z ?_;rw[bG (by rw[NT,Nat.zero_add];exact(aW.1 hj).1)];simp[CW,hj])
 have a2:w.freeze ⟨b,0,none⟩ l.length=aQ w b (.cells (CW l++cs).toArray E (0,l.length)):=by
  have hl:l.length≠0:=by simpa using h0
  unfold World.freeze aQ;rw[zD hl]
  congr 1
  apply bZ
  intro k;rw[dQ,Array.getElem?_setIfInBounds]
  by_cases hk:b=k
  ·subst hk;have a3:b<w.heap.size:=W.lt (aF N);rw[zF rfl,zF rfl,zF a3,show w.heap[b]?=_ from Z];simp[zJ]
  simp[hk]
 have:(execOp a.eval o).run cx.P w= .ok (.value (str l)) (aQ w b (.cells (CW l++cs).toArray E (0,l.length))):=by
  simp[execOp,ho,resolve,invoke,O.eval hx,O.eval hy,builtin,h,a2,str]
 rw[this];simp only[aH,hd];exact hK _ _ _ k _ _ (O.put hn) (W.block N a1)
end
section
variable {cx:Cx} {Q:Qt} {e:Env} {I:Heap} {H:HL} {o:Oper} {C:Ct}
end
theorem run_checkKey{P K}(N:P.underlying K=some .string) b v w:(aC b 10000 K (str v)).run P w= .ok () w:=by
 have h:∀n,(aC b (n+1) K (str v)).run P w= .ok () w:=fun n=>by simp[aC,run_underlying N,str]
 exact h 9999
section
variable {cx:Cx} {Q:Qt} {e:Env} {I:Heap} {H:HL} {o:Oper} {C:Ct} {S:World→Prop}
theorem AV{T d}(O:o.op= .makeMap T none)(W:o.dst=some d)(Z:aJ d cx.n=true)(k:∀b,cx.w0.heap.size≤b→C ((d,.map (some b))::e) I ((b,.map #[] 0)::H)):BZ cx Q o e I H C:=by
 intro K hK a w ha N;unfold aV;have:(execOp a.eval o).run cx.P w= .ok (.value (.map (some w.heap.size))) { w with heap:=w.heap.push (.map #[] 0) }:=by
  simp[execOp,O,Instr.makeMap,newObj,bW]
 rw[this];simp only[aH,W];exact hK _ _ _ (k _ N.size) _ _ (ha.put Z) (N.alloc _)
end
def a0N (P:Program) (f:FuncId) (args:List Value) (u:FrameMode) (I:Heap) (H:HL) (post:FrameMode→Heap→HL→Prop):Prop:=
 Enters P f∧∀w,Ready I H w→CallsD P f args.toArray u w fun e u' w'=>(∃v,e= .returned v)∧∃I' H',St w (H.map (·.1)) I I' H' w'∧post u' I' H'
theorem yY.b5r{P f fn c args I H}{N:Ending→Heap→HL→Prop}(Z:P.funcs[f]?=some fn)(hb:fn.body=some c)(W:fn.name≠ "runtime.NumGoroutine")
 (hn:args.length≤fn.ntmps)
 (h:∀w0,Ready I H w0→Cj ⟨P,fn.ntmps,w0,H.map (·.1),I,[],none⟩ (bodyPostD P fn (RR w0 (H.map (·.1)) I N)) c (LW 0 args) I H):yY P f args I H N:=by
 refine⟨⟨fn,Z,W,by simp[hb]⟩,fun w O=>?_⟩;refine calls_of_wp_defers Z hb ?_;exact(h w O).wp rfl (Has.start args fn.ntmps hn) (dF w I H O.1 O.2.1 O.2.2.1 O.2.2.2)
section
variable {cx:Cx} {Q:Qt} {e:Env} {I:Heap} {H:HL} {o:Oper} {C:Ct}
theorem J.defer{O:Array Oper}{l:List Oper}{f:Nat}{W:Operand}{xs:List Operand}{ts:Array TypeId}{fst cap vs:List Value}(hg:o.guard=none)(ho:o.op= .defer ⟨.value W,xs.toArray,ts⟩)(hd:o.dst=none)
 (hf:ev e W=some (.func (.func f) fst.toArray cap.toArray))(hx:evs e xs=some vs)
 (k:J { cx with ds:=⟨.fn (.func f) cap.toArray,(fst++vs).toArray⟩::cx.ds } Q O l e I H)(Z:cx.rd=none:=by rfl):J cx Q O (o::l) e I H:=by
 intro a w N hs;refine wpListIn_plain hg fun K hK=>a3l (.inl Z) ?_;unfold aV;have hr:(execOp a.eval o).run cx.P w= .ok (.defer ⟨.fn (.func f) cap.toArray,(fst++vs).toArray⟩) w:=by
  have a0:xs.toArray.map a.eval=vs.toArray:=by rw[bU,N.TV hx]
  simp[execOp,ho,resolve,a0,N.eval hf,bD]
 rw[hr];simp only[aH,hd];exact hK _ _ (k _ _ ⟨N.size,by simp[Act.put,N.defs],fun t v h=>N.get t v h⟩ hs)
def b1F (cx:Cx) (fn:Func) (post:Ending→Heap→HL→Prop) (e:Env) (I:Heap) (H:HL):Prop:=
 ∀a w,Has a cx.n e cx.ds→St cx.w0 cx.D cx.I0 I H w→∃v,(results fn a.tmps).run cx.P w= .ok v w∧RR cx.w0 cx.D cx.I0 post (.returned v) w
theorem a4D{P fn tmps}{R:Ending→World→Prop}{f cap vs u w w0 D I0 H1 R1}{W:FrameMode→Heap→HL→Prop}(hu:u≠ .run)
 (hs:a0N P f (vs++cap) u I H1 W)(N:St w0 D I0 I (H1++R1) w){ds}
 (k:∀u' Z O w',Le I Z→W u' Z O→St w0 D I0 Z (O++R1) w'→Leaves P fn tmps R ds (settle u') w'):
 Leaves P fn tmps R (⟨.fn (.func f) cap.toArray,vs.toArray⟩::ds) u w:=by
 refine leaves_cons (f:=f) (args:=(vs++cap).toArray) hu (by have h:=MP hs.1 (vs++cap).toArray w;simpa[invoke]using h) ?_;have a0:Ready I H1 w:=⟨N.sub,fun p hp=>N.own p (aG _ hp),by
  have:=N.nodup;rw[aS,aK]at this;exact this.1,fun p hp=>N.dis p (aG _ hp)⟩
 refine(hs.2 w a0).mono ?_;rintro _ u' w' ⟨⟨v,rfl⟩,Z,O,a1,hp⟩;exact k u' Z O w' a1.le hp (N.call a1)
end
def Rj (cx:Cx) (Q:Qt) (c:Code) (n:Nat) (e:Env) (I:Heap) (H:HL):Prop:=∀a w,Has a cx.n e cx.ds→St cx.w0 cx.D cx.I0 I H w→Code.rounds cx.P c Q n a w
section
variable {cx:Cx} {Q:Qt} {e:Env} {I:Heap} {H:HL} {o:Oper} {C:Ct} {S:World→Prop}
theorem Cj.rounds n {c}(h:Rj cx Q c n e I H)(N:cx.rd=none:=by rfl):Cj cx Q (.loop c) e I H:=Cj.of_wp N fun a w O W=>wp_loop_rounds n (h a w O W)
theorem Rj.succ{c n}(h:Cj cx (Exit.then (Code.rounds cx.P c Q n) Q) c e I H)(N:cx.rd=none:=by rfl):Rj cx Q c (n+1) e I H:=fun _ _ O W=>h.wp N O W
theorem Ej.rounds{c n}(h:Rj cx Q c n e I H):Ej cx (Exit.then (Code.rounds cx.P c Q n) Q) .normal e I H:=fun a w N O=>h a w N O
theorem EJ{x y T E b off n sz off' k i}(Z:o.op= .indexAddr T x y)(hx:ev e x=some (ptr b off))(hy:ev e y=some (.int k i))
 (hu:cx.P.underlying T=some (.array n E))(O:∀w,(sizeOf E).run cx.P w= .ok sz w)(h0:0≤i)(h1:i<n)(N:off+i.toNat*sz=off'):BH cx o e S (ptr b off'):=by
 intro a w W _;subst N;simp[execOp,Z,W.eval hx,W.eval hy,Instr.indexAt,Instr.sureAddr,asIntOf,run_underlying hu,h0,h1,O,dD]
theorem a2c{P w T E n c} p (N:P.underlying T=some (.slice E)):(binOp .neq T (.slice p n c) (.slice none 0 0)).run P w= .ok (.bool p.isSome) w∧(binOp .eql T (.slice p n c) (.slice none 0 0)).run P w= .ok (.bool p.isNone) w:=by
 have h1:∀d:Nat,(aX (d+1) T (.slice p n c) (.slice none 0 0)).run P w= .ok p.isNone w:=fun d=>by cases p<;>simp[aX,run_underlying N]
 simp only[binOp];cases p<;>simp[Op.equal,Op.maxDepth,h1 9999]
theorem a9o{x y T U E n c} p (O:o.op= .binOp .neq T x y U)(W:ev e x=some (.slice p n c))(Z:ev e y=some (.slice none 0 0))(hT:cx.P.underlying T=some (.slice E)):BH cx o e S (.bool p.isSome):=by
 intro a w N _;have hb:=(a2c (P:=cx.P) (w:=w) (n:=n) (c:=c) p hT).1;have hg:eqGuard .neq T x y (.slice p n c) (.slice none 0 0)=pure ():=rfl;simp[execOp,O,N.eval W,N.eval Z,hb,hg]
theorem a9K{x y T U E n c} p (O:o.op= .binOp .eql T x y U)(W:ev e x=some (.slice p n c))(Z:ev e y=some (.slice none 0 0))(hT:cx.P.underlying T=some (.slice E)):BH cx o e S (.bool p.isNone):=by
 intro a w N _;have hb:=(a2c (P:=cx.P) (w:=w) (n:=n) (c:=c) p hT).2;have hg:eqGuard .eql T x y (.slice p n c) (.slice none 0 0)=pure ():=rfl;simp[execOp,O,N.eval W,N.eval Z,hb,hg]
theorem made1 z c:madeCells #[z] c=(dR c z).toArray:=by
 apply bZ
 intro i;unfold madeCells
 by_cases h:i<c
 ·simp[h,Nat.mod_one]
 simp[h]
theorem XB{T E d by1 n c:Nat}{x y kl W z}(ho:o.op= .makeSlice T x y)(hd:o.dst=some d)(hn:aJ d cx.n=true)(hx:ev e x=some (.int kl (n:Int)))(hy:ev e y=some (.int W (c:Int)))
 (hu:cx.P.underlying T=some (.slice E))(Z:(cx.P.info? E).map (fun i=>(i.bytes,i.size,i.zero))=some (by1,1,some z))(a0:z.cells= #[z])(a2:n≤c)(hb:by1*c≤281474976710656)(a3:c≤9223372036854775807)
 (k:∀b,cx.w0.heap.size≤b→C ((d,.slice (some ⟨b,0,none⟩) n c)::e) I ((b,zJ E (dR c z))::H)):BZ cx Q o e I H C:=by
 intro K hK a w O hs;unfold aV;obtain⟨i,hi,N⟩:=bM.1 Z;simp only[fH]at N;obtain⟨h1,h2,h3⟩:=N;have a1:(i.bytes:Int)*(c:Int)≤281474976710656:=by
  have h:((by1*c:Nat):Int)≤281474976710656:=oM;rw[h1]
  rwa [Int.natCast_mul]at h
 have hr:=run_make (P:=cx.P) w T E i z hu hi h3 kl W n c oM oM a1 oM;have:(execOp a.eval o).run cx.P w= .ok (.value (.slice (some ⟨w.heap.size,0,none⟩) n c)) (w.alloc (zJ E (dR c z))):=by
  simp[execOp,ho,O.eval hx,O.eval hy,hr,h2,a0,made1,zJ]
 rw[this];simp only[aH,hd];exact hK _ _ _ (k _ hs.size) _ _ (O.put hn) (hs.alloc _)
theorem a8W{x y}{T E b off n c sz j:Nat}{kl}(Z:o.op= .slice T x (some y) none none)(hx:ev e x=some (.slice (some ⟨b,off,none⟩) n c))(hy:ev e y=some (.int kl (j:Int)))(hu:cx.P.underlying T=some (.slice E))(N:∀w,(sizeOf E).run cx.P w= .ok sz w)(hj:j≤n)(hc:j<c):
 BH cx o e S (.slice (some ⟨b,off+j*sz,none⟩) (n-j) (c-j)):=by
 intro a w O _;have W:¬c=j:=oM;have h1:(j:Int)≤n:=oM;simp[execOp,Z,O.eval hx,O.eval hy,dW,eP,run_underlying hu,dA,run_sliceBound,h1,N,W,dD]
theorem b8a{x y T U E d b off n c m yv} i {cs N ys H'}(ho:o.op= .call ⟨.builtin .copy,#[x,y],#[T,U]⟩)(hd:o.dst=some d)(hn:aJ d cx.n=true)(hx:ev e x=some (.slice (some ⟨b,off,none⟩) n c))(hy:ev e y=some yv)
 (Z:cx.P.underlying T=some (.slice E))(a1:∀w,(sizeOf E).run cx.P w= .ok 1 w)(a2:Src cx.P I H 1 m yv ys)(a3:m≤n)(hH:H[i]?=some (b,zJ E cs))(W:yV cs off ys N)(a4:yX H i (b,zJ E N) H')
 (k:C ((d,i64 m)::e) I H'):BZ cx Q o e I H C:=by
 intro K hK a w ha O;unfold aV;obtain⟨_,a5,a6,a7⟩:=a2;have hb:=O.own _ (aF hH);have a8:=JB (P:=cx.P) (t:=E) ys 0 w cs hb (.inl rfl) W.1 (fun u Z=>(List.all_eq_true.1 a5) u Z) N W;have a0:Nat.min m n=m:=fB a3;have:(execOp a.eval o).run cx.P w= .ok (.value (i64 m)) (aQ w b (zJ E N)):=by
  simp[execOp,ho,resolve,invoke,builtin,ha.eval hx,ha.eval hy,Builtin.copy_,run_underlying Z,a6 w O.ss,a0,a1,a7 w O.ss,a8,goInt,zJ]
 rw[this];simp only[aH,hd];exact hK _ _ _ k _ _ (ha.put hn) (O.block hH a4)
theorem b3l{H1 R d f T te fo nm xs ts vs q}{W:Ending→Heap→HL→Prop}
 (ho:o.op= .call ⟨.invoke fo nm,xs.toArray,ts⟩)(hd:o.dst=some d)(hn:aJ d cx.n=true)(hf:ev e fo=some (.iface T (.pointer q)))(hx:evs e xs=some vs)
 (hm:((cx.P.info? T).bind fun i=>i.methods.find? (·.name == nm)).map (fun m=>(m.path.isEmpty,m.func))=some (true,some (f,true)))(hu:cx.P.underlying T=some (.pointer te))
 (hs:yY cx.P f (.pointer q::vs) I H1 W)
 (k:∀v O N,Le I O→W (.returned v) O N→C ((d,v)::e) O (N++R))
 (kp:∀ch O N,Le I O→W (.panicked ch) O N→Ej cx Q (.panic ch) e O (N++R))
 (ko:∀O N,¬W .outgrown O N):BZ cx Q o e I (H1++R) C:=by
 intro K hK a w ha a0;unfold aV;have hr:(execOp a.eval o).run cx.P w= .ok (.enter f (.pointer q::vs).toArray) w:=by
  have a8:xs.toArray.map a.eval=vs.toArray:=by rw[bU,ha.TV hx]
  obtain⟨m,a9,a5⟩:=bM.1 hm;obtain⟨i,hi,aa⟩:=Option.bind_eq_some_iff.1 a9;simp only[fH]at a5;obtain⟨Z,ab⟩:=a5;have ac:m.path.toList=[]:=by
   have:m.path= #[]:=by simpa using Z
   rw[this]
  have a3:=MP hs.1 (.pointer q::vs).toArray w;have a4:∀n:Nat,(method (n+1) T (.pointer q) nm).run cx.P w= .ok (f,.pointer q) w:=fun n=>by
   simp[method,typeInfo,hi,aa,ac,follow,ab,receiverAt,run_underlying hu,Place.get]
  have ad:∀n:Nat,(method (n+Made.depth) T (.pointer q) nm).run cx.P w= .ok (f,.pointer q) w:=fun n=>a4 (n+(Made.depth-1));simp only[execOp,ho,resolve,a8,ha.eval hf,invoke,aB,aN,aA,callMethod];simp[ad,a3]
 rw[hr];simp only[aH];have a1:Ready I H1 w:=⟨a0.sub,fun p Z=>a0.own p (aG _ Z),by
  have:=a0.nodup;rw[aS,aK]at this;exact this.1,fun p Z=>a0.dis p (aG _ Z)⟩
 refine(hs.2 w a1).mono ?_;rintro en w' ⟨O,N,a6,Z⟩;have a7:=a6.le;have a2:=a0.call a6;cases en with
 |returned v=>
  rw[hd];exact hK _ _ _ (k v O N a7 Z) _ _ (ha.put hn) a2
 |panicked ch=>exact kp ch O N a7 Z _ _ ha a2
 |outgrown=>exact(ko _ _ Z).elim
end
theorem St.set1{w I b T off cs v}(N:Ready I [(b,zJ T cs)] w):St w [b] I I [(b,zJ T (cs.set off v))] (w.setCell ⟨b,off,none⟩ v):=by
 have W:w.heap[b]?=some (zJ T cs):=N.2.1 (b,zJ T cs) (.head _);have O:St w [b] I I [(b,zJ T cs)] w:=dF w I [(b,zJ T cs)] N.1 N.2.1 N.2.2.1 N.2.2.2;rw[a0Z (fr:=(0,0)) W];exact O.block (i:=0) rfl dS
theorem yY.a3M{P f args I b T off cs x y v}(O:Enters P f)(W:cs[off]?=some x)
 (h:∀w,w.cell? ⟨b,off,none⟩=some x→w.frozen? ⟨b,off,none⟩=false→Calls P f args.toArray w fun e w'=>e= .returned v∧w'=w.setCell ⟨b,off,none⟩ y):
 yY P f args I [(b,zJ T cs)] (fun e Z H'=>e= .returned v∧H'=[(b,zJ T (cs.set off y))]):=
 ⟨O,fun w N=>(h w (cell_of_heap (N.2.1 _ (.head _)) W) (by have:=N.2.1 _ (.head _);simp only at this;simp[fJ,this,zJ])).mono fun e w' ⟨h1,h2⟩=>⟨I,_,h2▸St.set1 N,h1,rfl⟩⟩
theorem yY.b8h{P f args I b T off cs x v}(O:Enters P f)(W:cs[off]?=some x)
 (h:∀w,w.cell? ⟨b,off,none⟩=some x→Calls P f args.toArray w fun e w'=>e= .returned v∧w'=w):
 yY P f args I [(b,zJ T cs)] (fun e Z H'=>e= .returned v∧H'=[(b,zJ T cs)]):=
 ⟨O,fun w N=>(h w (cell_of_heap (N.2.1 _ (.head _)) W)).mono fun _ _ ⟨h1,h2⟩=>⟨I,_,h2▸dF w I _ N.1 N.2.1 N.2.2.1 N.2.2.2,h1,rfl⟩⟩
theorem a0N.a3M{P f args u I b T off cs x y v}(Z:Enters P f)(hx:cs[off]?=some x)
 (h:∀w,w.cell? ⟨b,off,none⟩=some x→w.frozen? ⟨b,off,none⟩=false→CallsD P f args.toArray u w fun e N w'=>N=u∧(e= .returned v∧(w'=w.setCell ⟨b,off,none⟩ y∨w'=w.drew.setCell ⟨b,off,none⟩ y))):
 a0N P f args u I [(b,zJ T cs)] (fun N a0 H'=>N=u∧H'=[(b,zJ T (cs.set off y))]):=
 ⟨Z,fun w O=>(h w (cell_of_heap (O.2.1 _ (.head _)) hx) (by have:=O.2.1 _ (.head _);simp only at this;simp[fJ,this,zJ])).mono fun e N w' ⟨h0,h1,h2⟩=>⟨⟨v,h1⟩,I,_,by
  have W:=St.set1 (off:=off) (v:=y) O;rcases h2 with h2|h2
  ·rw[h2];exact W
  rw[h2];exact W.drew,h0,rfl⟩⟩
def tab (f:Nat→Value) (tr:Value):List Value:=(List.range 256).map f++[tr]
theorem EU f tr:(tab f tr).length=257:=by simp[tab]
theorem KR f tr {i}(h:i<256):(tab f tr)[i]?=some (f i):=by
 unfold tab;rw[bG (by simpa using h)];simp[h]
theorem ZQ f tr:(tab f tr)[256]?=some tr:=by
 unfold tab;rw[bF sI];simp
theorem b8d f tr v {i}(h:i<256):(tab f tr).set i v=tab (fun j=>if j=i then v else f j) tr:=by
 apply List.ext_getElem?
 intro j;rw[eG];rcases dB j 256 with O|O
 ·rw[KR _ _ O,KR _ _ O]
  by_cases N:i=j
  ·subst N;simp[EU];omega
  have:¬j=i:=fun W=>N W.symm;simp[N,this]
 have N:¬i=j:=oM;simp only[N,if_false];unfold tab;rw[bF (by simpa using O),bF (by simpa using O)];simp
theorem b4u f tr v:(tab f tr).set 256 v=tab f v:=by
 unfold tab;rw[List.set_append_right _ _ sI];simp
theorem b0X{f tr}(N:∀i,(f i).oneCell'=true)(O:tr.oneCell'=true):(tab f tr).all bC=true:=by
 unfold tab;simp[N,O]
theorem b0V f a v:yV (tab f a) 256 [v] (tab f v):=by
 refine⟨by simp[EU],?_⟩;unfold tab;rw[List.take_append_of_le_length sI,List.take_of_length_le sI,List.drop_eq_nil_of_le sI];simp
theorem yV.all{l xs:List Value}(h:l.length=xs.length):yV l 0 xs xs:=⟨by simp[h],by simp[←h]⟩
theorem YA n g:(gV n g).cells= #[gV n g]:=by cases g<;>rfl
theorem a2w n g:(gV n g).oneCell'=true:=by cases g<;>rfl
def a2h (I:Heap) (l:List UInt8) (v:Value):Prop:=∃b c sp fr,v= .slice (some ⟨b,0,none⟩) l.length c∧I b=some (.cells (CW l++sp).toArray 5 fr)
theorem a2h.mono{I N l v}(h:a2h I l v)(O:Le I N):a2h N l v:=let ⟨b,c,sp,fr,h1,h2⟩:=h;⟨b,c,sp,fr,h1,O _ _ h2⟩
section
variable {cx:Cx} {Q:Qt} {e:Env} {I:Heap} {H:HL}
theorem Ej.b9w{fn}{N:Ending→Heap→HL→Prop}{H1 H2 H3 R1 f1 f2 W a0 Z a1}(a3:cx.ds=[⟨.fn (.func f1) W.toArray,a0.toArray⟩,⟨.fn (.func f2) Z.toArray,a1.toArray⟩])
 (h1:a0N cx.P f1 (a0++W) .returning I H1 fun u' a9 H'=>u'= .returning∧H'=H2)(h2:∀O,a0N cx.P f2 (a1++Z) .returning O H2 fun u' a8 H'=>u'= .returning∧H'=H3)
 (k:∀O,Le I O→b1F cx fn N e O (H3++R1)):Ej cx (bodyPostD cx.P fn (RR cx.w0 cx.D cx.I0 N)) .normal e I (H1++R1):=by
 intro a w ha a4;show Leaves cx.P fn a.tmps (RR cx.w0 cx.D cx.I0 N) a.defers .returning w;rw[ha.defs,a3];refine a4D sI h1 a4 ?_;rintro u' O _ w' a5 ⟨rfl,rfl⟩ a6;refine a4D (by simp[]) (h2 O) a6 ?_;rintro _ I2 _ w2 a2 ⟨rfl,rfl⟩ a7;exact k I2 (a5.trans a2) a w2 ha a7
theorem b1F.none{fn}{N:Ending→Heap→HL→Prop}(O:fn.results= #[])(W:N (.returned (.tuple #[])) I H):b1F cx fn N e I H:=
 fun _ _ _ Z=>⟨.tuple #[],results_none O _ _ _,I,H,Z,W⟩
end
def YC (P:Program) (l:Nat) (args:List Value) (I:Heap) (H:HL) (post:Ending→Heap→HL→Prop):Prop:=
 ∀w,Ready I H w→∃f tmps assign body,(Instr.yield l args.toArray).run P w= .ok (.round l f tmps assign body) w∧RoundIn aY 0 P l f tmps assign body w (RR w (H.map (·.1)) I post)
theorem a9E{rd n P l f tmps assign body w}{R:Ending→World→Prop}(h:RoundIn aY n P l f tmps assign body w R):RoundIn { aY with round:=rd } n P l f tmps assign body w R:=by
 cases rd with
 |none=>exact h
 |some l=>exact h
section
variable {cx:Cx} {Q:Qt} {o:Oper} {e:Env} {I:Heap}
theorem a8y{H1 R d l fo xs ts vs}{W:Ending→Heap→HL→Prop}{K:Act→World→Prop}
 (ho:o.op= .call ⟨.value fo,xs.toArray,ts⟩)(hd:o.dst=some d)(hn:aJ d cx.n=true)(hf:ev e fo=some (.func (.yield l) #[] #[]))(hx:evs e xs=some vs)(hs:YC cx.P l vs I H1 W)
 (k:∀v Z N,Le I Z→W (.returned v) Z N→∀a w,Has a cx.n ((d,v)::e) cx.ds→St cx.w0 cx.D cx.I0 Z (R++N) w→K a w)
 (kp:∀ch Z N,¬W (.panicked ch) Z N)(ko:∀Z N,¬W .outgrown Z N){a w}(ha:Has a cx.n e cx.ds)(O:St cx.w0 cx.D cx.I0 I (R++H1) w):o.wpIn cx.F 0 cx.P a w K Q:=by
 replace O:=O.perm (H':=H1++R) aO;have a0:Ready I H1 w:=⟨O.sub,fun p hp=>O.own p (aG _ hp),by
  have:=O.nodup;rw[aS,aK]at this;exact this.1,fun p hp=>O.dis p (aG _ hp)⟩
 obtain⟨f,tmps,assign,body,h1,h2⟩:=hs w a0;have hr:(execOp a.eval o).run cx.P w= .ok (.round l f tmps assign body) w:=by
  have a3:xs.toArray.map a.eval=vs.toArray:=by
   rw[bU,ha.TV hx]
  simp only[execOp,ho,resolve,a3,ha.eval hf,bD,invoke,aB,aN,aA,Array.empty_append,h1]
 refine⟨fun _ _=>trivial,?_⟩;have he:o.semAt cx.F.round a.eval=execOp a.eval o:=Oper.semAt_eq _ _ _ (fun c hc=>by rw[ho]at hc;cases hc);rw[he,hr];refine⟨fun h=>by simp[Cx.F,aY]at h,?_⟩;refine RoundIn.mono (a9E (rd:=cx.rd) h2) ?_;rintro en w' ⟨Z,N,a1,hp⟩;have a4:=a1.le;have a2:=(O.call a1).perm (H':=R++N) aO;cases en with
 |returned v=>
  rw[hd];exact k v Z N a4 hp _ _ (ha.put hn) a2
 |panicked ch=>exact(kp _ _ _ hp).elim
 |outgrown=>exact(ko _ _ hp).elim
theorem J.yield{a0:Array Oper}{r:List Oper}{H1:HL}(R:HL){d l:Nat}{fo:Operand}{xs:List Operand}{ts:Array TypeId}{vs:List Value}{O:Ending→Heap→HL→Prop}
 (hg:o.guard=none)(ho:o.op= .call ⟨.value fo,xs.toArray,ts⟩)(hd:o.dst=some d)(hn:aJ d cx.n=true)(hf:ev e fo=some (.func (.yield l) #[] #[]))(hx:evs e xs=some vs)(hs:YC cx.P l vs I H1 O)
 (k:∀v W N,Le I W→O (.returned v) W N→J cx Q a0 r ((d,v)::e) W (R++N))
 (kp:∀ch W N,¬O (.panicked ch) W N)(ko:∀W N,¬O .outgrown W N):J cx Q a0 (o::r) e I (R++H1):=
 fun _ _ ha Z=>wpListIn_plain hg fun _ hK=>a8y ho hd hn hf hx hs (fun v W N a1 hp a w ha Z=>hK a w (k v W N a1 hp a w ha Z)) kp ko ha Z
theorem J.b9x{Z:Array Oper}{r:List Oper}{H1:HL}(R:HL){d l:Nat}{fo:Operand}{xs:List Operand}{ts:Array TypeId}{vs:List Value}{O:Ending→Heap→HL→Prop}(j dj:Nat)(a0 b:Bool)
 (hg:o.guard=some (j,a0))(a2:(Z[j]?).bind (·.dst)=some dj)(hv:eg e dj=some (.bool b))(hb:b=a0)(ho:o.op= .call ⟨.value fo,xs.toArray,ts⟩)(hd:o.dst=some d)(hn:aJ d cx.n=true)(hf:ev e fo=some (.func (.yield l) #[] #[]))(hx:evs e xs=some vs)(hs:YC cx.P l vs I H1 O)
 (k:∀v W N,Le I W→O (.returned v) W N→J cx Q Z r ((d,v)::e) W (R++N))
 (kp:∀ch W N,¬O (.panicked ch) W N)(ko:∀W N,¬O .outgrown W N):J cx Q Z (o::r) e I (R++H1):=by
 intro a w ha a1;refine wpListIn_step fun K hK=>?_;rw[zF (by simp[Region.wanted,hg,NW ha a2 hv,hb])];exact a8y ho hd hn hf hx hs (fun v W N a3 hp a w ha a1=>hK a w (k v W N a3 hp a w ha a1)) kp ko ha a1
end
def YS (P:Program) (l:Nat) (xs:List (List Value)) (Y:Nat→Heap→HL→Prop) (Z:Heap→HL→Prop):Prop:=
 ∀k args,xs[k]?=some args→∀I H,Y k I H→YC P l args I H (fun e I' H'=>(e= .returned (.bool true)∧Y (k+1) I' H')∨(e= .returned (.bool false)∧Z I' H'))
def Gen (P:Program) (f:FuncId) (fst cap:List Value) (I:Heap) (xs:List (List Value)):Prop:=
 Enters P f∧∀(l:Nat) (Y:Nat→Heap→HL→Prop) (Z:Heap→HL→Prop),(∀k I1 I2 H,Le I1 I2→Y k I1 H→Y k I2 H)→YS P l xs Y Z→
  ∀H,Y 0 I H→yY P f (fst++[.func (.yield l) #[] #[]]++cap) I H (fun e I' H'=>e= .returned (.tuple #[])∧(Y xs.length I' H'∨Z I' H'))
def a7E:List Tmp→List Value→Env→Env
 |t::ps,v::vs,e=>a7E ps vs ((t,v)::e)
 |_,_,e=>e
theorem Has.zip{n}:∀(ps:List Tmp) (vs:List Value) (e:Env) (tmps:Array Value),(∀t∈ps,aJ t n=true)→Has ⟨tmps,[]⟩ n e []→Has ⟨(ps.zip vs).foldl (fun tmps (x:Tmp×Value)=>tmps.setIfInBounds x.1 x.2) tmps,[]⟩ n (a7E ps vs e) []
 |[],_,_,_,_,h=>h
 |_::_,[],_,_,_,h=>h
 |t::ps,_v::vs,_e,tmps,hn,h=>Has.zip ps vs _ _ (fun u N=>hn u (.tail _ N)) (Has.put (a:=⟨tmps,[]⟩) h (hn t (.head _)))
def c0d (cx:Cx) (l:Nat) (r:Loop) (body:Code) (Q:Qt):Qt
 | .normal,a,w=>∃e I H,Has a cx.n e cx.ds∧St cx.w0 cx.D cx.I0 I ((l,.loop r)::H) w∧Cj cx Q body e I ((l,.loop { r with state:= .busy })::H)
 |_,_,_=>False
def RdQ (cx:Cx) (l:Nat) (r:Loop) (Y:Heap→HL→Prop) (Z:Code→Heap→HL→Prop):Qt
 | .normal,_,w=>∃I H,St cx.w0 cx.D cx.I0 I ((l,.loop { r with state:= .busy })::H) w∧Y I H
 | .ret,_,w=>∃I H,St cx.w0 cx.D cx.I0 I ((l,.loop { r with state:= .busy })::H) w∧Z .ret I H
 | .exit id,_,w=>∃I H,St cx.w0 cx.D cx.I0 I ((l,.loop { r with state:= .busy })::H) w∧Z (.exit id) I H
 |_,_,_=>False
section
variable {cx:Cx} {Q:Qt} {e:Env} {I:Heap} {H:HL} {l:Nat} {r:Loop} {Y:Heap→HL→Prop} {Z:Code→Heap→HL→Prop}
theorem Ej.asg{body}(k:Cj cx Q body e I ((l,.loop { r with state:= .busy })::H)):Ej cx (c0d cx l r body Q) .normal e I ((l,.loop r)::H):=
 fun _ _ N O=>⟨e,I,H,N,O,k⟩
theorem Ej.b5z(h:Y I H):Ej cx (RdQ cx l r Y Z) .normal e I ((l,.loop { r with state:= .busy })::H):=fun _ _ _ N=>⟨I,H,N,h⟩
abbrev UK (b:Nat):Deferred:={ target:= .collected b,args:= #[] }
theorem Cj.rangeFunc{g:Operand}{ps:List Tmp}{assign body:Code}{f:Nat}{fst cap:List Value}{H1 R:HL}(xs:List (List Value))(Y:Nat→Heap→HL→Prop)(Z:Code→Heap→HL→Prop)
 (hr:cx.rd=none)(ah:∀t∈ps,Nat.blt t cx.n=true)(ae:∀args∈xs,args.length=ps.length)(hg:ev e g=some (.func (.func f) fst.toArray cap.toArray))(a8:Gen cx.P f fst cap I xs)
 (ab:∀k W I2 H,Le W I2→Y k W H→Y k I2 H)(h0:Y 0 I H1)
 (round:∀l r k args W O w0,xs[k]?=some args→Le I W→Y k W O→
  Cj ⟨cx.P,cx.n,w0,l::O.map (·.1),W,[],some l⟩ (c0d ⟨cx.P,cx.n,w0,l::O.map (·.1),W,[],some l⟩ l r body (RdQ ⟨cx.P,cx.n,w0,l::O.map (·.1),W,[],some l⟩ l r (Y (k+1)) Z)) assign (a7E ps args e) W ((l,.loop r)::O))
 (done:∀b I' H',Le I I'→Y xs.length I' H'→Ej { cx with ds:=UK b::cx.ds } Q .normal e I' ((b,.deferred (some []))::(H'++R)))
 (left:∀b c I' H',Le I I'→Z c I' H'→Cj { cx with ds:=UK b::cx.ds } Q c e I' ((b,.deferred (some []))::(H'++R))):
 Cj cx Q (.rangeFunc g ps.toArray assign body) e I (H1++R):=by
 intro a w ha ai;rw[Cx.wide hr];refine wpIn_rangeFunc fun fn _=>?_;obtain⟨r,a0⟩:∃r:Loop,r={ state:= .ready,pending:=none,fn:=fn,tmps:=a.tmps,params:=ps.toArray,assign:=assign,body:=body,defers:=w.heap.size }:=⟨_,rfl⟩;obtain⟨l,hl⟩:∃l,l=w.heap.size+1:=⟨_,rfl⟩;have a3:St cx.w0 cx.D cx.I0 I (((l,.loop r)::H1)++((w.heap.size,.deferred (some []))::R)) ((w.alloc (.deferred (some []))).alloc (.loop r)):=by
  have h1:=(ai.alloc (.deferred (some []))).alloc (.loop r);have h2:(w.heap.push (.deferred (some []))).size=l:=by rw[hl,Array.size_push]
  rw[h2]at h1;refine h1.perm ?_;show((l,Obj.loop r)::(H1++(w.heap.size,Obj.deferred (some []))::R)).Perm _;exact List.Perm.cons _ bV
 let Y':Nat→Heap→HL→Prop:=fun k W H=>Le I W∧∃O,H=(l,.loop r)::O∧Y k W O
 let Z':Heap→HL→Prop:=fun W H=>∃c O,H=(l,.loop { r with state:= .done,pending:=some c })::O∧Z c W O
 have aj:YS cx.P l xs Y' Z':=by
  rintro k args hk W H ⟨hle,O,rfl,hY⟩ w1 N;have al:w1.heap[l]?=some (.loop r):=N.2.1 _ (.head _);have am:=ae args (aF hk);refine⟨r.fn,_,r.assign,r.body,run_yield al (by rw[a0];simp[am]),roundIn_of_wpIn trivial ?_⟩;have hz:(r.params.zip args.toArray).foldl (fun tmps (x:Tmp×Value)=>tmps.setIfInBounds x.1 x.2) r.tmps=(ps.zip args).foldl (fun tmps (x:Tmp×Value)=>tmps.setIfInBounds x.1 x.2) a.tmps:=by
   rw[a0];simp[List.zip_toArray]
  have a9:=Has.zip (n:=cx.n) ps args e a.tmps ah ⟨ha.size,rfl,ha.get⟩;rw[←hz]at a9;have hc:=round l r k args W O w1 hk hle hY _ _ a9 (dF w1 W ((l,.loop r)::O) N.1 N.2.1 N.2.2.1 N.2.2.2);have e1:r.assign=assign:=by rw[a0]
  have e2:r.body=body:=by rw[a0]
  rw[e1,e2];refine wpIn_mono hc ?_;rintro x a2 _ hq;cases x with
  |normal=>
   obtain⟨e2,I2,_,a6,ac,hb⟩:=hq;refine⟨_,run_beginRound (ac.own _ (.head _)) (by rw[a0]),?_⟩;have an:=ac.block (i:=0) (o':= .loop { r with state:= .busy }) rfl dS;refine wpIn_mono (hb a2 _ a6 an) ?_;rintro x _ _ a4;cases x with
   |normal=>
    obtain⟨I3,H3,a1,ao⟩:=a4;refine⟨_,_,run_endRound none (a1.own _ (.head _)),I3,(l,.loop r)::H3,?_,.inl ⟨rfl,hle.trans a1.le,H3,rfl,ao⟩⟩;have:=a1.block (i:=0) (o':= .loop r) rfl dS;rw[a0]at this ⊢;exact this
   |ret=>
    obtain⟨I3,H3,a1,aa⟩:=a4;exact⟨_,_,run_endRound (some .ret) (a1.own _ (.head _)),I3,_,a1.block (i:=0) rfl dS,.inr ⟨rfl,_,H3,rfl,aa⟩⟩
   |exit id=>
    obtain⟨I3,H3,a1,aa⟩:=a4;exact⟨_,_,run_endRound (some (.exit id)) (a1.own _ (.head _)),I3,_,a1.block (i:=0) rfl dS,.inr ⟨rfl,_,H3,rfl,aa⟩⟩
   |goto t=>exact a4.elim
   |panic ch=>exact a4.elim
   |outgrown=>exact a4.elim
  |exit id=>exact hq.elim
  |goto t=>exact hq.elim
  |ret=>exact hq.elim
  |panic ch=>exact hq.elim
  |outgrown=>exact hq.elim
 have af:=a8.2 l Y' Z' (fun k W I2 H hle ⟨h1,O,h2,h3⟩=>⟨h1.trans hle,O,h2,ab _ _ _ _ hle h3⟩) aj ((l,.loop r)::H1) ⟨dP _,H1,rfl,h0⟩;have N:Ready I ((l,.loop r)::H1) ((w.alloc (.deferred (some []))).alloc (.loop r)):=⟨a3.sub,fun p hp=>a3.own p (aG _ hp),by
  have:=a3.nodup;rw[aS,aK]at this;exact this.1,fun p hp=>a3.dis p (aG _ hp)⟩
 have ag:(Instr.enterLoop fn a.tmps ps.toArray assign body none).run cx.P w= .ok (l,[UK w.heap.size]) ((w.alloc (.deferred (some []))).alloc (.loop r)):=by
  rw[hl,a0];exact run_enterLoop_outer fn a.tmps ps.toArray assign body
 refine⟨l,[UK w.heap.size],(w.alloc (.deferred (some []))).alloc (.loop r),⟨.fn (.func f) cap.toArray,(fst++[fC (.yield l) #[] #[]]).toArray⟩,(w.alloc (.deferred (some []))).alloc (.loop r),f,(fst++[fC (.yield l) #[] #[]]++cap).toArray,(w.alloc (.deferred (some []))).alloc (.loop r),ag,?_,fun _ _=>trivial,?_,fun h=>by simp[aY]at h,callsIn_wide.2 ?_⟩
 ·have he:a.eval (.const (.func (.yield l) #[] #[]))= .func (.yield l) #[] #[]:=rfl;simp[resolve,ha.eval hg,bD,he]
 ·have h:=MP a8.1 (fst++[fC (.yield l) #[] #[]]++cap).toArray ((w.alloc (.deferred (some []))).alloc (.loop r));simpa[invoke]using h
 refine(af.2 _ N).mono ?_;rintro _ w' ⟨I',H',ad,rfl,ap⟩;have a5:=a3.call ad;have hle:=ad.le;have a6:Has { a with defers:=[UK w.heap.size]++a.defers } cx.n e (UK w.heap.size::cx.ds):=⟨ha.size,by simp[ha.defs],ha.get⟩;rcases ap with⟨_,O,rfl,hY⟩|⟨c,O,rfl,hZ⟩
 ·refine⟨_,_,run_endLoop (a5.own _ (.head _)) (by rw[a0];simp),?_⟩;have a7:=((a5.block (i:=0) (o':= .loop { r with state:= .exhausted }) rfl dS).sublist (dN _ _)).perm (H':=(w.heap.size,.deferred (some []))::(O++R)) bV.symm;have hp:r.pending=none:=by rw[a0]
  rw[hp]at a7 ⊢;exact done w.heap.size I' O hle hY _ _ a6 a7
 refine⟨_,_,run_endLoop (a5.own _ (.head _)) sI,?_⟩;have a7:=((a5.block (i:=0) (o':= .loop { { r with state:= .done,pending:=some c }with state:= .exhausted }) rfl dS).sublist (dN _ _)).perm (H':=(w.heap.size,.deferred (some []))::(O++R)) bV.symm;have hw:=left w.heap.size c I' O hle hZ _ _ a6 a7;have hF:({ cx with ds:=UK w.heap.size::cx.ds }:Cx).F=aY:=Cx.wide hr;rw[hF]at hw;exact hw
end
theorem b1d{t n}(h:aJ t n=true):∀u∈[t],aJ u n=true:=fun u N=>by simp at N;subst N;exact h
theorem seq1{α:Type}(l:List α)(f:α→Value):∀args∈l.map (fun x=>[f x]),args.length=1:=fun args h=>by
 obtain⟨x,_,rfl⟩:=aT.1 h;rfl
theorem b0k{α:Type}{l:List α}{f:α→Value}{k:Nat}{args}(h:(l.map (fun x=>[f x]))[k]?=some args):∃x,l[k]?=some x∧args=[f x]:=by
 rw[eH]at h;cases hl:l[k]? with
 |none=>rw[hl]at h;cases h
 |some x=>rw[hl]at h;cases h;exact⟨x,rfl,rfl⟩
theorem Cj.a4B{N Q c e I H}(W:N.D=[])(k:(∀p∈H,N.w0.heap.size≤p.1)→Cj N Q c e I H):Cj N Q c e I H:=fun a w Z O=>k (fun p hp=>by
 have:=O.new p hp;rw[W]at this;exact this.resolve_left sI) a w Z O
theorem BN.base{O N sz n xs g T}(h:BN O sz n xs g)(W:∀p∈gH T xs g,N≤p.1):BN N sz n xs g:=by
 cases g with
 |none=>exact h
 |some q=>exact⟨W _ (.head _),h.2⟩
theorem yY.a8p{P f fn c args I H}{N:Ending→Heap→HL→Prop}(Z:P.funcs[f]?=some fn)(hb:fn.body=some c)(W:fn.name≠ "runtime.NumGoroutine")
 (hn:args.length≤fn.ntmps)
 (h:∀w0,Ready I H w0→Cj ⟨P,fn.ntmps,w0,H.map (·.1),I,[],none⟩ (bodyPostM aY 0 P fn (RR w0 (H.map (·.1)) I N)) c (LW 0 args) I H):yY P f args I H N:=by
 refine⟨⟨fn,Z,W,by simp[hb]⟩,fun w O=>?_⟩;refine(callsIn_wide (n:=0)).1 (callsIn_of_wp_marks Z hb trivial ?_);exact h w O _ _ (Has.start args fn.ntmps hn) (dF w I H O.1 O.2.1 O.2.2.1 O.2.2.2)
def WT (cx:Cx) (fn:Func) (post:Ending→Heap→HL→Prop) (ds:List Deferred) (e:Env) (I:Heap) (H:HL):Prop:=
 ∀a w,Has a cx.n e cx.ds→St cx.w0 cx.D cx.I0 I H w→LeavesInM aY 0 cx.P fn a.tmps (RR cx.w0 cx.D cx.I0 post) ds .returning w
section
variable {cx:Cx} {fn:Func} {post:Ending→Heap→HL→Prop} {e:Env} {I:Heap} {H H':HL} {ds:List Deferred}
theorem Ej.b4Q{x}(O:x= .ret∨x= .normal)(h:WT cx fn post cx.ds e I H):Ej cx (bodyPostM aY 0 cx.P fn (RR cx.w0 cx.D cx.I0 post)) x e I H:=by
 intro a w N W;have:=h a w N W;rw[←N.defs]at this;rcases O with rfl|rfl
 ·exact this
 exact this
theorem WT.mark{b} i (N:H[i]?=some (b,.deferred (some [])))(O:yX H i (b,.deferred none) H')(h:WT cx fn post ds e I H'):WT cx fn post (UK b::ds) e I H:=
 fun a _ Z W=>⟨sI,.inl ⟨b,_,rfl,run_takeDeferred (W.own _ (aF N)),h a _ Z (W.block N O)⟩⟩
theorem WT.keep(N:Keeps H' H)(h:WT cx fn post ds e I H'):WT cx fn post ds e I H:=fun a w O W=>h a w O (W.sublist N)
theorem WT.a0t{t v}(N:fn.results= #[.tmp t])(O:eg e t=some v)(W:post (.returned v) I H):WT cx fn post [] e I H:=by
 intro a w Z hs;refine⟨v,?_,I,H,hs,W⟩;rw[results_tmp N];have:=Z.get t v O;simp[this]
end
section
variable {α:Type} [BEq α] [LawfulBEq α]
abbrev ML (α:Type):=List (α×Value×Nat)
abbrev FU (kv:α→Value) (p:α×Value×Nat):MapEntry:={ key:=kv p.1,val:=p.2.1,born:=p.2.2 }
def zQ (kv:α→Value) (l:ML α) (c:Nat):Obj:= .map (l.map (FU kv)).toArray c
def zV (l:ML α) (a:α):Option Value:=match l with
 |[]=>none
 |(b,v,_)::r=>if a == b then some v else zV r a
def AP (l:ML α) (a:α) (v:Value) (c:Nat):ML α:=match l with
 |[]=>[(a,v,c)]
 |(b,u,n)::r=>if a == b then(b,v,n)::r else(b,u,n)::AP r a v c
def DC (l:ML α) (a:α) (c:Nat):Nat:=if (zV l a).isSome then c else c+1
def midx (l:ML α) (a:α) (i:Nat):Option (Nat×Value):=match l with
 |[]=>none
 |(b,v,_)::r=>if a == b then some (i,v)else midx r a (i+1)
def CX (P:Program) (K:TypeId) (kv:α→Value):Prop:=
 (∀(a:α) (l:ML α) (w:World),(aU K (kv a) (l.map (FU kv))).run P w= .ok (midx l a 0) w)∧(∀b a w,(aC b 10000 K (kv a)).run P w= .ok () w)∧∀a,aP 10000 (kv a) (kv a)=true
theorem run_findKey{P K w d}(O:P.underlying K=some d){k N r}(h:bQ d k N 0=some r):(aU K k N).run P w= .ok r w:=by
 simp[aU,run_underlying O,h]
omit [LawfulBEq α] in
theorem a1v{kv d}(N:∀a b,bT d (kv a) (kv b)=some (a == b)) a:∀(l:ML α) (i:Nat),bQ d (kv a) (l.map (FU kv)) i=some (midx l a i)
 |[],_=>rfl
 |(b,u,n)::r,i=>by
  simp only[cO,bQ,N,midx];cases a == b
  ·simp only[aZ,if_false];exact a1v N a r (i+1)
  simp
omit [LawfulBEq α] in
theorem CX.now{P K}{kv:α→Value}{d}(N:P.underlying K=some d)(O:∀a b,bT d (kv a) (kv b)=some (a == b))(W:∀b a w,(aC b 10000 K (kv a)).run P w= .ok () w)(Z:∀a,aP 10000 (kv a) (kv a)=true):CX P K kv:=
 ⟨fun a l _=>run_findKey N (a1v O a l 0),W,Z⟩
omit [LawfulBEq α] in
theorem a4g{P K kv w}(N:∀a b,(Op.equal K (kv a) (kv b)).run P w= .ok (a == b) w) a:∀(l:ML α) (i:Nat),(dG K (kv a) (l.map (FU kv)) i).run P w= .ok (midx l a i) w
 |[],i=>by simp[dG,midx]
 |(b,u,n)::r,i=>by
  simp only[cO,dG,midx,aB,N,aA];cases a == b
  ·simp only[aZ,if_false];exact a4g N a r (i+1)
  simp
omit [LawfulBEq α] in
theorem CX.equal{P K}{kv:α→Value}{d}(N:P.underlying K=some d)(O:∀a b,bT d (kv a) (kv b)=none)(W:∀a b w,(Op.equal K (kv a) (kv b)).run P w= .ok (a == b) w)(Z:∀b a w,(aC b 10000 K (kv a)).run P w= .ok () w)(hb:∀a,aP 10000 (kv a) (kv a)=true):CX P K kv:=by
 refine⟨fun a l w=>?_,Z,hb⟩;cases l with
 |nil=>exact run_findKey N rfl
 |cons p r=>
  have h1:bQ d (kv a) ((p::r).map (FU kv)) 0=none:=by simp[bQ,O]
  have h2:=a4g (P:=P) (K:=K) (w:=w) (fun a b=>W a b w) a (p::r) 0;simp only[aU,aB,run_underlying N,aA,h1];exact h2
theorem CX.int{P K k}(N:P.underlying K=some (.int k)):CX P K (fun a:Int=>Value.int k a):=by
 refine CX.now N (fun a b=>by simp[bT]) (fun b a w=>?_) (fun a=>?_)
 ·have h:∀n,(aC b (n+1) K (.int k a)).run P w= .ok () w:=fun n=>by simp[aC,run_underlying N]
  exact h 9999
 have h:∀n,aP (n+1) (.int k a) (.int k a)=true:=fun n=>by simp[aP]
 exact h 9999
theorem a1w a:∀n,aP n (str a) (str a)=true:=fun n=>by
 cases n<;>simp only[aP,str]<;>(show(a.toArray == a.toArray)=true)<;>simp
theorem CX.text{P K}(N:P.underlying K=some .string):CX P K (fun a:List UInt8=>str a):=by
 refine CX.now N (fun a b=>?_) (fun b a w=>run_checkKey N b a w) (fun a=>a1w a _);simp only[bT,str,Option.some.injEq];show(a.toArray == b.toArray)=(a == b);simp
theorem QA{a}:∀(l:ML α) (i:Nat),zV l a=none→midx l a i=none∧∀v c,AP l a v c=l++[(a,v,c)]
 |[],_,_=>⟨rfl,fun _ _=>rfl⟩
 |(b,u,n)::r,i,h=>by
  unfold zV at h
  split at h
  ·cases h
  rename_i N
  obtain⟨h1,h2⟩:=QA r (i+1) h;have O:(a == b)=false:=by simpa using N
  refine⟨?_,fun v c=>?_⟩
  ·simp only[midx,O];exact h1
  simp only[AP,O,aZ,if_false,h2,List.cons_append]
theorem XY{a v}:∀(l:ML α) (i:Nat),zV l a=some v→
 ∃j u n,midx l a i=some (i+j,v)∧l[j]?=some (a,u,n)∧∀x c,AP l a x c=l.set j (a,x,n)
 |[],_,h=>by cases h
 |(b,u,n)::r,i,h=>by
  unfold zV at h
  split at h
  ·rename_i Z
   have N:=zB Z;subst N;cases h;exact⟨0,v,n,by simp[midx],rfl,fun x c=>by simp[AP]⟩
  rename_i O
  have W:(a == b)=false:=by simpa using O
  obtain⟨j,u',n',h1,h2,h3⟩:=XY r (i+1) h;refine⟨j+1,u',n',?_,by simpa using h2,fun x c=>by simp[AP,W,h3]⟩;simp only[midx,W,aZ,if_false];rw[h1,fK,Nat.add_comm 1 j]
variable {cx:Cx} {Q:Qt} {e:Env} {I:Heap} {H:HL} {o:Oper} {C:Ct} {S:World→Prop}
theorem a6D{P:Program}{T K E b c:Nat}{kv:α→Value}{l:ML α}{a:α}{v:Value}{w:World}(hT:P.underlying T=some (.map K E))(hk:CX P K kv)(hb:w.heap[b]?=some (zQ kv l c)):
 (dK T (.map (some b)) (kv a) v).run P w= .ok () (aQ w b (zQ kv (AP l a v c) (DC l a c))):=by
 obtain⟨hf,hc,N⟩:=hk;have hg:(getObj b).run P w= .ok (zQ kv l c) w:=by simp[getObj,bW,hb,zQ]
 have hset:∀o',(setObj b o').run P w= .ok () (aQ w b o'):=fun o'=>by simp[setObj,bW,hb,aQ,zQ]
 cases hm:zV l a with
 |none=>
  obtain⟨h1,h2⟩:=QA l 0 hm;have h3:(aU K (kv a) (l.map (FU kv))).run P w= .ok none w:=by rw[hf,h1]
  simp only[dK,aB,run_underlying hT,aA,hg,zQ,hc,h3,hset,h2,DC,hm];simp
 |some u=>
  obtain⟨j,u',n,h1,h2,h3⟩:=XY l 0 hm;rw[Nat.zero_add]at h1;have h4:(aU K (kv a) (l.map (FU kv))).run P w= .ok (some (j,u)) w:=by rw[hf,h1]
  have hj:(l.map (FU kv)).toArray[j]?=some { key:=kv a,val:=u',born:=n }:=by simp[h2,FU]
  have O:∀w,(dZ (kv a) (kv a)).run P w= .ok (kv a) w:=fun w=>by simp[dZ,N]
  simp only[dK,aB,run_underlying hT,aA,hg,zQ,hc,h4,hj,Option.map_some,Option.getD_some,O,hset,h3,DC,hm];simp only[Option.isSome_some,if_true];refine zC (fun A=>Result.ok () (aQ w b (Obj.map A c))) ?_
  apply bZ
  intro i;rw[dQ];simp only[List.getElem?_toArray,eH,eG]
  by_cases hi:j=i
  ·subst hi;have W:j<l.length:=by
    rcases dB j l.length with Z|Z
    ·exact Z
    simp[List.getElem?_eq_none Z]at h2
   have h5:l[j]=(a,u',n):=by
    have:=List.getElem?_eq_getElem W;rw[h2]at this;exact(Option.some.inj this).symm
   simp[W,h5]
  simp[hi]
theorem DK{T K E b c:Nat}{m x y}{kv:α→Value}{l a}{W v:Value}{H'}(i:Nat)(N:o.op= .insert T m x y∨o.op= .mapUpdate T m x y)(hd:o.dst=none)(hm:ev e m=some (.map (some b)))(hx:ev e x=some W)(Z:W=kv a)(hy:ev e y=some v)(hT:cx.P.underlying T=some (.map K E))(hK:CX cx.P K kv)
 (hH:H[i]?=some (b,zQ kv l c))(a0:yX H i (b,zQ kv (AP l a v c) (DC l a c)) H')(kk:C e I H'):BZ cx Q o e I H C:=by
 intro _ a1 w0 w O hs;unfold aV;subst Z;have hb:=hs.own _ (aF hH);have hr:=a6D (a:=a) (v:=v) hT hK hb;have:(execOp w0.eval o).run cx.P w= .ok .skip (aQ w b (zQ kv (AP l a v c) (DC l a c))):=by
  rcases N with N|N<;>simp[execOp,N,O.eval hm,O.eval hx,O.eval hy,hr]
 rw[this];simp only[aH,hd];exact a1 _ _ _ kk _ _ O.TG (hs.block hH a0)
theorem a3J{P:Program}{T K E b c:Nat}{kv:α→Value}{l:ML α}{a:α}{z:Value}{w:World}{ok:Bool}(N:P.underlying T=some (.map K E))(hk:CX P K kv)(hz:∀w,(zeroValue E).run P w= .ok z w)(hb:w.heap[b]?=some (zQ kv l c)):
 (dH T (.map (some b)) (kv a) ok).run P w= .ok (if ok then .tuple #[(zV l a).getD z,.bool (zV l a).isSome]else(zV l a).getD z) w:=by
 obtain⟨O,W,_⟩:=hk;have Z:(getObj b).run P w= .ok (zQ kv l c) w:=by simp[getObj,bW,hb,zQ]
 cases hm:zV l a with
 |none=>
  have h3:(aU K (kv a) (l.map (FU kv))).run P w= .ok none w:=by rw[O,(QA l 0 hm).1]
  simp only[dH,aB,run_underlying N,aA,Z,zQ,aN,W,h3,hz];simp
 |some u=>
  obtain⟨j,_,n,h1,h2,h3⟩:=XY l 0 hm;have h4:(aU K (kv a) (l.map (FU kv))).run P w= .ok (some (0+j,u)) w:=by rw[O,h1]
  simp only[dH,aB,run_underlying N,aA,Z,zQ,aN,W,h4];simp
theorem a4p{T K E b c:Nat}{m x}{kv:α→Value}{l a}{N z:Value}(Z:o.op= .lookup T m x true)(hm:ev e m=some (.map (some b)))(hx:ev e x=some N)(O:N=kv a)(hT:cx.P.underlying T=some (.map K E))(hK:CX cx.P K kv)(hz:∀w,(zeroValue E).run cx.P w= .ok z w)
 (hb:yZ S b (zQ kv l c)):BH cx o e S (.tuple #[(zV l a).getD z,.bool (zV l a).isSome]):=by
 intro w0 w W hs;subst O;have hr:=a3J (a:=a) (ok:=true) hT hK hz (hb w hs);simp only[execOp,Z,aB,W.eval hm,W.eval hx,hr,aA,aN,if_true]
theorem AX{T K E b c:Nat}{m x}{kv:α→Value}{l a}{N z:Value}(Z:o.op= .lookup T m x false)(hm:ev e m=some (.map (some b)))(hx:ev e x=some N)(O:N=kv a)(hT:cx.P.underlying T=some (.map K E))(hK:CX cx.P K kv)(hz:∀w,(zeroValue E).run cx.P w= .ok z w)
 (hb:yZ S b (zQ kv l c)):BH cx o e S ((zV l a).getD z):=by
 intro w0 w W hs;subst O;have hr:=a3J (a:=a) (ok:=false) hT hK hz (hb w hs);simp only[execOp,Z,aB,W.eval hm,W.eval hx,hr,aA,aN,if_false,aZ]
end
def IG (T:TypeId) (I:Heap) (l:List (List UInt8)) (v:Value):Prop:=∃b c sp,v= .slice (some ⟨b,0,none⟩) l.length c∧I b=some (zJ T (l.map str++sp))
theorem IG.mono{T I N l v}(h:IG T I l v)(O:Le I N):IG T N l v:=
 let ⟨b,c,sp,h1,h2⟩:=h;⟨b,c,sp,h1,O _ _ h2⟩
theorem KQ{l:List (List UInt8)}{sp}{k:Nat}{x}(h:l[k]?=some x):(l.map str++sp)[k]?=some (str x):=by
 obtain⟨N,_⟩:=aW.1 h;rw[bG (by simpa using N)];simp[h]
theorem LZ l:(⟨l.toArray⟩:ByteArray).data.toList=l:=sI
theorem c0D{x}(h: -2147483648≤x∧x≤2147483647):IntKind.i32.wrap x=x:=by
 simp[IntKind.wrap,IntKind.bits,IntKind.signed];omega
theorem drop_cons{α:Type}{s:List α}{k c}(h:s[k]?=some c):s.drop k=c::s.drop (k+1):=by
 obtain⟨N,O⟩:=aW.1 h;rw[List.drop_eq_getElem_cons N,O]
theorem Ej.b5Z{N fn}{O:Ending→Heap→HL→Prop}{e I H t u s v x y}(hr:fn.results= #[.tmp t,.tmp u,.tmp s])(Z:N.ds=[])(hv:eg e t=some v)(hx:eg e u=some x)(hy:eg e s=some y)(hp:O (.returned (.tuple #[v,x,y])) I H):
 Ej N (bodyPost N.P fn (RR N.w0 N.D N.I0 O)) .ret e I H:=by
 intro a w W hs;refine⟨W.defs.trans Z,_,?_,I,H,hs,hp⟩;have h1:=W.get t v hv;have h2:=W.get u x hx;have h3:=W.get s y hy;simp[results,hr,h1,h2,h3]
theorem yY.frame{P f args I H}{O:Ending→Heap→HL→Prop} R (h:yY P f args I H O):yY P f args I (H++R) (fun e I' H'=>∃H1,H'=H1++R∧O e I' H1):=by
 refine⟨h.1,fun w hw=>?_⟩;have N:=dF w I (H++R) hw.1 hw.2.1 hw.2.2.1 hw.2.2.2;have W:Ready I H w:=⟨N.sub,fun p Z=>N.own p (aG _ Z),by
  have:=N.nodup;rw[aS,aK]at this;exact this.1,fun p Z=>N.dis p (aG _ Z)⟩
 refine(h.2 w W).mono fun e w' ⟨I',H1,hs,Z⟩=>⟨I',H1++R,N.call hs,H1,rfl,Z⟩
theorem yY.drop{P f args I H}{O N:Ending→Heap→HL→Prop}(h:yY P f args I H O)(hp:∀e W H',O e W H'→∃Z,Z.Sublist H'∧N e W Z):yY P f args I H N:=
 ⟨h.1,fun w hw=>(h.2 w hw).mono fun e _ ⟨W,H',hs,hq⟩=>let ⟨Z,h1,h2⟩:=hp e W H' hq;⟨W,Z,hs.sublist h1,h2⟩⟩
theorem IJ{cx Q o e I C R d f fo xs ts fst cap vs}{W:Ending→Heap→HL→Prop}
 (ho:o.op= .call ⟨.value fo,xs.toArray,ts⟩)(hd:o.dst=some d)(hn:aJ d cx.n=true)(hf:ev e fo=some (.func (.func f) fst.toArray cap.toArray))(hx:evs e xs=some vs)
 (hs:yY cx.P f (fst++vs++cap) I [] W)
 (k:∀v O N,Le I O→(∀p∈N,cx.w0.heap.size≤p.1)→W (.returned v) O N→C ((d,v)::e) O (N++R))
 (kp:∀ch O N,Le I O→W (.panicked ch) O N→Ej cx Q (.panic ch) e O (N++R))
 (ko:∀O N,¬W .outgrown O N):BZ cx Q o e I R C:=by
 intro K hK a w ha a0;unfold aV;have hr:(execOp a.eval o).run cx.P w= .ok (.enter f (fst++vs++cap).toArray) w:=by
  have a6:xs.toArray.map a.eval=vs.toArray:=by
   rw[bU,ha.TV hx]
  simp only[execOp,ho,resolve,a6,ha.eval hf,bD,invoke,aB,aN,aA,MP hs.1];simp
 rw[hr];simp only[aH];have a1:Ready I [] w:=⟨a0.sub,fun _ Z=>absurd Z (eX),List.nodup_nil,fun _ Z=>absurd Z (eX)⟩;refine(hs.2 w a1).mono ?_;rintro en w' ⟨O,N,a2,Z⟩;have a4:=a2.le;have a3:=St.call (H1:=[]) (R:=R) a0 a2;have a5:∀p∈N,cx.w0.heap.size≤p.1:=fun p Z=>Nat.le_trans a0.size ((a2.new p Z).resolve_left sI);cases en with
 |returned v=>
  rw[hd];exact hK _ _ _ (k v O N a4 a5 Z) _ _ (ha.put hn) a3
 |panicked ch=>exact kp ch O N a4 Z _ _ ha a3
 |outgrown=>exact(ko _ _ Z).elim
def FN (T:TypeId) (I:Heap) (l:List (List UInt8)) (v:Value):Prop:=(l=[]∧v= .slice none 0 0)∨∃b c sp,v= .slice (some ⟨b,0,none⟩) l.length c∧l.length≤c∧I b=some (zJ T (l.map str++sp))
theorem FN.mono{T I N l v}(h:FN T I l v)(O:Le I N):FN T N l v:=h.imp id fun⟨b,c,sp,h1,h2,h3⟩=>⟨b,c,sp,h1,h2,O _ _ h3⟩
theorem FN.some{T I l v}(h:FN T I l v)(N:l≠[]):IG T I l v:=let ⟨b,c,sp,h1,_,h3⟩:=h.resolve_left fun h=>N h.1;⟨b,c,sp,h1,h3⟩
section
variable {cx:Cx} {Q:Qt} {e:Env} {I:Heap} {R:HL} {T:TypeId} {l:List (List UInt8)} {n base:Nat} {g:Gs}
theorem b8R(N:BN base 1 n (l.map str) none):l=[]∧n=0:=⟨by simpa using N.2,N.1⟩
theorem b9r{b c sp}(N:BN base 1 n (l.map str) (some (b,c,sp))):base≤b∧n=l.length∧l.length≤c:=⟨N.1,by have:=N.2.1;simpa using this.symm,by have:=N.2.2;simp at this;omega⟩
theorem a7U{X:Heap→HL→Prop}(O:BN base 1 n (l.map str) g)(Z:∀b o,base≤b→(∀N,Le I N→N b=some o→X N R)→X I ((b,o)::R))(k:∀N,Le I N→FN T N l (gV n g)→X N R):X I (gH T (l.map str) g++R):=by
 cases g with
 |none=>
  obtain⟨h1,h2⟩:=b8R O;subst h2;exact k I (dP _) (.inl ⟨h1,rfl⟩)
 |some q=>
  obtain⟨b,c,sp⟩:=q;obtain⟨h1,h2,h3⟩:=b9r O;subst h2;exact Z b _ h1 fun N W hb=>k N W (.inr ⟨b,c,sp,rfl,h3,hb⟩)
theorem Cj.a4C{c}(O:BN cx.w0.heap.size 1 n (l.map str) g)(k:∀N,Le I N→FN T N l (gV n g)→Cj cx Q c e N R):Cj cx Q c e I (gH T (l.map str) g++R):=
 a7U (X:=fun I H=>Cj cx Q c e I H) O (fun _ _ W k=>fD W k) k
theorem J.a4C{N r}(W:BN cx.w0.heap.size 1 n (l.map str) g)(k:∀O,Le I O→FN T O l (gV n g)→J cx Q N r e O R):J cx Q N r e I (gH T (l.map str) g++R):=
 a7U (X:=fun I H=>J cx Q N r e I H) W (fun _ _ Z k=>J.persist Z k) k
end
section
variable {cx:Cx} {Q:Qt} {o:Oper} {e:Env} {I:Heap} {H:HL} {C:Ct} {S:World→Prop}
theorem a6u{P w T l m}(N:P.underlying T=some .bool):(Op.equal T (.bool l) (.bool m)).run P w= .ok (l == m) w:=by
 show(aX (9999+1) T (.bool l) (.bool m)).run P w=_;rw[aX];simp only[aB,run_underlying N,aA,aN]
theorem b2n{x y T U l m}(O:o.op= .binOp .eql T x y U)(W:ev e x=some (.bool l))(Z:ev e y=some (.bool m))(hT:cx.P.underlying T=some .bool):BH cx o e S (.bool (l == m)):=by
 intro a w N _;have hg:eqGuard .eql T x y (.bool l) (.bool m)=pure ():=rfl;simp[execOp,O,N.eval W,N.eval Z,hg,binOp,a6u hT]
end
section
variable {cx:Cx} {Q:Qt} {o:Oper} {e:Env} {I:Heap} {H:HL} {C:Ct} {S:World→Prop}
theorem b5w{base sz n xs g}(h:BN base sz n xs g):∃p c,gV n g= .slice p n c:=by
 cases g with
 |none=>obtain⟨rfl,_⟩:=h;exact⟨none,0,rfl⟩
 |some q=>obtain⟨b,c,sp⟩:=q;exact⟨_,c,rfl⟩
theorem b0j{base sz n xs g}(h:BN base sz n xs g){x T E}(N:o.op= .call ⟨.builtin .len,#[x],#[T]⟩)(O:ev e x=some (gV n g))(W:cx.P.underlying T=some (.slice E)):BH cx o e S (i64 (n:Int)):=by
 obtain⟨p,c,Z⟩:=b5w h;exact LY N (O.trans (zC some Z)) W
end
section
variable {cx:Cx} {Q:Qt} {o:Oper} {e:Env} {I:Heap} {H:HL} {C:Ct} {S:World→Prop}
theorem b2S{x y T U l m}(O:o.op= .binOp .lss T x y U)(W:ev e x=some (str l))(Z:ev e y=some (str m)):BH cx o e S (.bool (decide (l<m))):=by
 intro a w N _;have h:=bP l m;simp[execOp,O,N.eval W,N.eval Z,str,eqGuard_at_string,binOp,eU,h]
theorem b3i{x y T U l m}(O:o.op= .binOp .geq T x y U)(W:ev e x=some (str l))(Z:ev e y=some (str m)):BH cx o e S (.bool (!decide (l<m))):=by
 intro a w N _;have h:=bP l m;simp[execOp,O,N.eval W,N.eval Z,str,eqGuard_at_string,binOp,eU,h]
theorem b4e{x y T U l m}(O:o.op= .binOp .gtr T x y U)(W:ev e x=some (str l))(Z:ev e y=some (str m)):BH cx o e S (.bool (!(decide (l<m) || l == m))):=by
 intro a w N _;have h:=bP l m;simp[execOp,O,N.eval W,N.eval Z,str,eqGuard_at_string,binOp,eU,h]
end
theorem Le.mono{I J K}(h:Le I J)(k:Le J K):Le I K:=h.trans k
theorem Ej.a4M{N fn}{O:Ending→Heap→HL→Prop}{e I H H' t T b n}{cs:List Value}{ty fr}(hk:Keeps H' H)(hr:fn.results= #[.cell t T])(W:N.ds=[])(hv:eg e t=some (ptr b 0))
 (hb:yZ (SS I H) b (.cells cs.toArray ty fr))(Z:∀w,(isAgg T).run N.P w= .ok true w)(a0:∀w,(sizeOf T).run N.P w= .ok n w)(hn:cs.length=n)(hp:O (.returned (.agg cs.toArray)) I H'):
 Ej N (bodyPost N.P fn (RR N.w0 N.D N.I0 O)) .ret e I H:=by
 intro a w ha hs;refine⟨ha.defs.trans W,_,?_,I,H',hs.sublist hk,hp⟩;have h1:=ha.get t _ hv;have hc:∀j v,cs[j]?=some v→w.cell? ((⟨b,0,none⟩:Addr).add j)=some v:=fun j v hj=>by
  rw[dD];exact cell_of_heap (hb w hs.ss) (by simpa using hj)
 have h2:=run_loadCells_list (P:=N.P) (w:=w) ⟨b,0,none⟩ cs hc;rw[hn]at h2;simp[results,hr,h1,asAddr,loadVar,Z,a0,h2]
end Go.Sx
namespace Go.Sx
open Go Go.Sort Go.Proofs
end Go.Sx
namespace Go.Sx
open Go
theorem CZ{α:Type}{f:α→List Value}{n:Nat}(N:∀x,(f x).length=n){sp:List Value}:∀{l:List α} {k:Nat} {x:α},l[k]?=some x→((l.flatMap f++sp).drop (k*n)).take n=f x
 |[],_,_,h=>by simp at h
 |y::l,0,x,h=>by
  simp at h;subst h;rw[Nat.zero_mul,List.drop_zero,bJ,bK,←N y,fE]
 |y::l,k+1,x,h=>by
  have O:l[k]?=some x:=by simpa using h
  have:=CZ N (sp:=sp) O;rw[bJ,bK,show(k+1)*n=(f y).length+k*n by rw[N y,Nat.add_mul];omega,←fF,List.drop_left];exact this
theorem a7x{α:Type}{f:α→List Value}{n:Nat}(N:∀x,(f x).length=n){sp:List Value}{l:List α}{k:Nat}{x:α}(h:l[k]?=some x)(j:Nat)(O:j<n):(l.flatMap f++sp)[k*n+j]?=(f x)[j]?:=by
 rw[←CZ N (sp:=sp) h,List.getElem?_take,zF O,eF]
theorem CV{α:Type}{f n}(N:∀x,(f x).length=n){cs sp:List Value}{o}{l:List α}(h:cs.drop o=l.flatMap f++sp){k x}(O:l[k]?=some x):(cs.drop (o+k*n)).take n=f x:=by
 rw[←fF,h];exact CZ N O
theorem KW{α:Type}{f n}(N:∀x,(f x).length=n){cs sp:List Value}{o}{l:List α}(h:cs.drop o=l.flatMap f++sp){k x}(O:l[k]?=some x) j (W:j<n):cs[o+k*n+j]?=(f x)[j]?:=by
 rw[←a7x N (sp:=sp) O j W,←h,eF,fK]
def zL {α:Type} (f:α→List Value) (I:Heap) (l:List α) (v:Value):Prop:=
 ∃p c,v= .slice p l.length c∧l.length≤c∧(l≠[]→∃b o cs t fr sp,p=some ⟨b,o,none⟩∧I b=some (.cells (List.toArray cs) t fr)∧cs.drop o=l.flatMap f++sp)
theorem zL.mono{α:Type}{f:α→List Value}{I N:Heap}{l:List α}{v:Value}(h:zL f I l v)(O:Le I N):zL f N l v:=
 let ⟨p,c,h1,h2,h3⟩:=h;⟨p,c,h1,h2,fun W=>let ⟨b,o,cs,t,fr,sp,Z,h5,h6⟩:=h3 W;⟨b,o,cs,t,fr,sp,Z,O _ _ h5,h6⟩⟩
theorem zL.of{α:Type}{f:α→List Value}{I:Heap}{l:List α}{T b c:Nat}{sp:List Value}(N:l.length≤c)(O:I b=some (zJ T (l.flatMap f++sp))):zL f I l (.slice (some ⟨b,0,none⟩) l.length c):=
 ⟨_,c,rfl,N,fun _=>⟨b,0,_,T,_,sp,rfl,O,rfl⟩⟩
theorem zL.nil{α:Type}{f I}:zL f I ([]:List α) (.slice none 0 0):=⟨none,0,rfl,Nat.le_refl _,fun h=>absurd rfl h⟩
theorem BF{α:Type}{l:List α}{k}(h:k<l.length):l≠[]:=fun e=>by rw[e]at h;simp at h
theorem Cj.join{N Q x y e I H}{ι:Type}(O:ι→Prop)(W:ι→Env)(hp:ι→Heap)(hl:ι→HL)(k2:∀i,O i→Cj N Q y (W i) (hp i) (hl i))
 (k1:(∀j e' Z H',O j→Sub (W j) e'→hp j=Z→hl j=H'→Ej N (Exit.then (y.wpIn N.F 0 N.P Q) Q) .normal e' Z H')→Cj N (Exit.then (y.wpIn N.F 0 N.P Q) Q) x e I H):Cj N Q (.seq x y) e I H:=
 Cj.seq (k1 fun j e' Z H' hj hs hI hH=>Ej.seq (by subst hI hH;exact Cj.weak hs (k2 j hj)))
theorem CJ{α:Type}{f:α→List Value}{sz}(N:∀x,(f x).length=sz):∀l:List α,(l.flatMap f).length=l.length*sz
 |[]=>sI
 |a::r=>by rw[bJ,dY,N a,CJ N r,List.length_cons,Nat.add_mul];omega
theorem LK{α:Type}(f:α→List Value) l x:(l++[x]).flatMap f=l.flatMap f++f x:=sI
section
variable {cx:Cx} {Q:Qt} {e:Env} {I:Heap} {R:HL} {T:TypeId} {α:Type} {l:List α} {f:α→List Value} {sz n base:Nat} {g:Gs}
theorem a8B{X:Heap→HL→Prop}(hf:∀x,(f x).length=sz)(O:0<sz)(W:BN base sz n (l.flatMap f) g)(hn:n=l.length)(hp:∀b o,base≤b→(∀N,Le I N→N b=some o→X N R)→X I ((b,o)::R))(k:∀N,Le I N→zL f N l (gV n g)→X N R):X I (gH T (l.flatMap f) g++R):=by
 subst hn;cases g with
 |none=>
  obtain⟨h1,h2⟩:=W;have:l=[]:=dJ.1 h1;subst this;exact k I (dP _) zL.nil
 |some q=>
  obtain⟨b,c,sp⟩:=q;obtain⟨h1,h2,h3⟩:=W;have hc:l.length≤c:=by
   rw[CJ hf]at h3;exact cZ (oM:l.length*sz≤c*sz) O
  exact hp b _ h1 fun N Z hb=>k N Z ⟨_,c,rfl,hc,fun _=>⟨b,0,_,T,_,sp,rfl,hb,rfl⟩⟩
theorem Cj.keepR{c}(W:∀x,(f x).length=sz)(N:0<sz)(Z:BN cx.w0.heap.size sz n (l.flatMap f) g)(hn:n=l.length)(k:∀O,Le I O→zL f O l (gV n g)→Cj cx Q c e O R):Cj cx Q c e I (gH T (l.flatMap f) g++R):=
 a8B (X:=fun I H=>Cj cx Q c e I H) W N Z hn (fun _ _ hb k=>fD hb k) k
theorem Ej.keepR{x}(W:∀x,(f x).length=sz)(N:0<sz)(Z:BN cx.w0.heap.size sz n (l.flatMap f) g)(hn:n=l.length)(k:∀O,Le I O→zL f O l (gV n g)→Ej cx Q x e O R):Ej cx Q x e I (gH T (l.flatMap f) g++R):=
 a8B (X:=fun I H=>Ej cx Q x e I H) W N Z hn (fun _ _ hb k=>Ej.persist hb k) k
theorem a2i n g:bC (gV n g)=true:=by
 cases g with
 |none=>rfl
 |some q=>obtain⟨b,c,sp⟩:=q;rfl
end
section
variable {cx:Cx} {o:Oper} {e:Env} {S:World→Prop}
theorem a4t{x y}{T E n c sz j:Nat}{b kl}(W:o.op= .slice T x none (some y) none)(Z:ev e x=some (.slice b n c))(hy:ev e y=some (.int kl (j:Int)))(hu:cx.P.underlying T=some (.slice E))(O:∀w,(sizeOf E).run cx.P w= .ok sz w)(hj:j≤c):
 BH cx o e S (.slice b j c):=by
 intro a w N _;have h1:(j:Int)≤c:=oM;cases b with
 |none=>simp[execOp,W,N.eval Z,N.eval hy,dW,eP,run_underlying hu,dA,run_sliceBound,h1,O]
 |some q=>
  simp[execOp,W,N.eval Z,N.eval hy,dW,eP,run_underlying hu,dA,run_sliceBound,h1,O,Addr.add]
end
theorem zL.take{α:Type}{f:α→List Value}{I:Heap}{l:List α}{p:Option Addr}{c:Nat}(h:zL f I l (.slice p l.length c)){m:Nat}(N:m≤l.length):zL f I (l.take m) (.slice p m c):=by
 obtain⟨_,_,O,_,W⟩:=h;cases O;refine⟨p,c,by rw[eY,fB N],by rw[eY];omega,fun Z=>?_⟩;have hl:l≠[]:=fun e=>Z (by rw[e];simp);obtain⟨b,o,cs,t,fr,sp,h1,h2,h3⟩:=W hl;refine⟨b,o,cs,t,fr,(l.drop m).flatMap f++sp,h1,h2,?_⟩;rw[h3,←bK,←List.flatMap_append,List.take_append_drop]
theorem a6o{α:Type}(A G N:List α):(A++(N++G)).Perm (A++(G++N)):=dU A aO
theorem a7K{α:Type}{f}:∀{l:List α},(∀x∈l,(f x).all bC=true)→(l.flatMap f).all bC=true
 |[],_=>rfl
 |a::r,h=>by rw[bJ,List.all_append,h a (.head _),a7K fun x N=>h x (.tail _ N)];rfl
theorem Src.row{P I H}{α:Type}{f:α→List Value}{sz:Nat}{l v}(O:∀x,(f x).length=sz)(h:zL f I l v)(h1:∀x∈l,(f x).all bC=true):Src P I H sz l.length v (l.flatMap f):=by
 obtain⟨p,c,rfl,_,W⟩:=h;cases l with
 |nil=>exact Src.nil
 |cons a r=>
  obtain⟨b,o,cs,t,fr,sp,rfl,h2,h3⟩:=W sI;have N:=CJ O (a::r);exact Src.slice (yZ.BR h2) (by rw[h3,←N,fE]) N (a7K h1)
def TK:HL→Heap→Heap
 |[],I=>I
 |(b,o)::r,I=>hput b o (TK r I)
theorem WB:∀{H:HL} {I:Heap},(H.map (·.1)).Nodup→∀p∈H,TK H I p.1=some p.2
 |[],_,_,p,hp=>by cases hp
 |(b,o)::r,I,hn,p,hp=>by
  rw[cO,List.nodup_cons]at hn;unfold TK hput;rcases dX.1 hp with e|e
  ·rw[e];simp
  have:p.1≠b:=fun g=>hn.1 (by rw[←g];exact aI (f:=(·.1)) e);rw[zD this];exact WB hn.2 p e
theorem UJ:∀{H:HL} {I:Heap} {b:Nat},b ∉ H.map (·.1)→TK H I b=I b
 |[],_,_,_=>rfl
 |(c,o)::r,I,b,h=>by
  rw[cO,dX,not_or]at h;unfold TK hput;rw[zD h.1];exact UJ h.2
theorem a8Y{H I}(O:∀p∈H,I p.1=none):Le I (TK H I):=fun b o N=>by
 by_cases h:b∈H.map (·.1)
 ·obtain⟨p,W,rfl⟩:=aT.1 h;rw[O p W]at N;cases N
 rw[UJ h];exact N
def hless (H:HL) (J:Heap):Heap:=fun b=>if b∈H.map (·.1)then none else J b
theorem b3s{H J b}(h:b ∉ H.map (·.1)):hless H J b=J b:=zD h
theorem yY.borrow{P f args I B}{a0:Ending→Heap→HL→Prop}(h:yY P f args (TK B I) [] a0):
 yY P f args I B (fun e I' H'=>∃J K,a0 e J K∧H'=B++K∧I'=hless B J∧∀p∈B,J p.1=some p.2):=by
 refine⟨h.1,fun w hw=>?_⟩;obtain⟨r1,r2,r3,r4⟩:=hw;have hr:Ready (TK B I) [] w:=by
  unfold Ready;refine⟨fun b o O=>?_,(fun p N=>by cases N),List.Pairwise.nil,(fun p N=>by cases N)⟩
  by_cases W:b∈B.map (·.1)
  ·obtain⟨p,N,rfl⟩:=aT.1 W;rw[WB r3 p N]at O;cases O;exact r2 p N
  rw[UJ W]at O;exact r1 b o O
 refine(h.2 w hr).mono ?_;rintro e w' ⟨J,K,Z,N⟩;have hJ:∀p∈B,J p.1=some p.2:=fun p N=>Z.le _ _ (WB r3 p N);have a2:∀p∈B,p.1<w.heap.size:=fun p N=>by
  have:=r2 p N;rcases dB p.1 w.heap.size with g|g
  ·exact g
  rw[dL g]at this;cases this
 have a1:∀q∈K,q.1 ∉ B.map (·.1):=fun q hq W=>by
  obtain⟨p,N,he⟩:=aT.1 W;have:=Z.dis q hq;rw[←he,hJ p N]at this;cases this
 refine⟨hless B J,B++K,⟨Z.os,Z.tape,Z.output,Z.size,fun b O _=>Z.frm b O sI,fun b o O=>?_,fun p N=>?_,?_,fun p N=>?_,fun p N=>?_,fun b O=>?_,fun b o O=>?_,a3p⟩,J,K,N,rfl,rfl,hJ⟩
 ·unfold hless at O
  split at O
  ·cases O
  exact Z.sub b o O
 ·rcases bH.1 N with g|g
  ·exact Z.sub _ _ (hJ p g)
  exact Z.own p g
 ·rw[aS,aK];refine⟨r3,Z.nodup,fun x hx y hy he=>?_⟩;obtain⟨q,hq,rfl⟩:=aT.1 hy;exact a1 q hq (he▸hx)
 ·unfold hless
  split
  ·rfl
  rename_i W
  rcases bH.1 N with g|g
  ·exact absurd (aI g) W
  exact Z.dis p g
 ·rcases bH.1 N with g|g
  ·exact .inl (aI g)
  rcases Z.new p g with k|k
  ·cases k
  exact .inr k
 ·unfold hless
  split
  ·rename_i W
   obtain⟨p,N,rfl⟩:=aT.1 W;exact(r4 p N).symm
  rename_i W
  rw[Z.ifr b O,UJ W]
 have W:b ∉ B.map (·.1):=fun W=>by
  obtain⟨p,N,rfl⟩:=aT.1 W;rw[r4 p N]at O;cases O
 rw[b3s W];exact Z.le b o (by rw[UJ W];exact O)
theorem yY.b2W{P f args I H}{N:Ending→Heap→HL→Prop}(W:Enters P f)(h:(H.map (·.1)).Nodup→(∀p∈H,I p.1=none)→yY P f args I H N):yY P f args I H N:=
 ⟨W,fun w O=>(h O.2.2.1 O.2.2.2).2 w O⟩
section
variable {cx:Cx} {Q:Qt} {e:Env} {I:Heap} {R:HL}
theorem WR{X:Heap→HL→Prop}{base}(O:∀I b o R,base≤b→(∀N,Le I N→N b=some o→X N R)→X I ((b,o)::R)):∀(B:HL) (I:Heap),(∀p∈B,base≤p.1)→(∀N,Le I N→(∀p∈B,N p.1=some p.2)→X N R)→X I (B++R)
 |[],I,_,k=>k I (dP _) fun p O=>by cases O
 |(b,o)::r,I,hb,k=>O I b o (r++R) (hb _ (.head _)) fun N Z hI=>WR O r N (fun p O=>hb p (.tail _ O)) fun I2 W a0=>k I2 (Z.trans W) fun p O=>by
  rcases dX.1 O with g|g
  ·rw[g];exact W _ _ hI
  exact a0 p g
theorem J.persists{N l} B (O:∀p∈B,cx.w0.heap.size≤p.1)(k:∀W,Le I W→(∀p∈B,W p.1=some p.2)→J cx Q N l e W R):J cx Q N l e I (B++R):=
 WR (X:=fun I H=>J cx Q N l e I H) (fun _ _ _ _ O k=>J.persist O k) B I O k
end
def MR {α:Type} (T:TypeId) (f:α→List Value) (I:Heap) (l:List α) (v:Value):Prop:=
 ∃p c,v= .slice p l.length c∧l.length≤c∧(l≠[]→∃b sp,p=some ⟨b,0,none⟩∧I b=some (zJ T (l.flatMap f++sp)))
theorem MR.mono{α:Type}{T:TypeId}{f:α→List Value}{I N:Heap}{l:List α}{v:Value}(h:MR T f I l v)(O:Le I N):MR T f N l v:=
 let ⟨p,c,h1,h2,h3⟩:=h;⟨p,c,h1,h2,fun W=>let ⟨b,sp,Z,h5⟩:=h3 W;⟨b,sp,Z,O _ _ h5⟩⟩
theorem MR.row{α:Type}{T:TypeId}{f:α→List Value}{I:Heap}{l:List α}{v:Value}(h:MR T f I l v):zL f I l v:=
 let ⟨p,c,h1,h2,h3⟩:=h;⟨p,c,h1,h2,fun N=>let ⟨b,sp,O,W⟩:=h3 N;⟨b,0,_,T,_,sp,O,W,rfl⟩⟩
theorem MR.nil{α:Type}{T f I}:MR T f I ([]:List α) (.slice none 0 0):=⟨none,0,rfl,Nat.le_refl _,fun h=>absurd rfl h⟩
section
variable {cx:Cx} {Q:Qt} {e:Env} {I:Heap} {R:HL} {T:TypeId} {α:Type} {l:List α} {f:α→List Value} {sz n base:Nat} {g:Gs}
theorem b5B{X:Heap→HL→Prop}(hf:∀x,(f x).length=sz)(O:0<sz)(W:BN base sz n (l.flatMap f) g)(hn:n=l.length)(hp:∀b o,base≤b→(∀N,Le I N→N b=some o→X N R)→X I ((b,o)::R))(k:∀N,Le I N→MR T f N l (gV n g)→X N R):X I (gH T (l.flatMap f) g++R):=by
 subst hn;cases g with
 |none=>
  obtain⟨h1,h2⟩:=W;have:l=[]:=dJ.1 h1;subst this;exact k I (dP _) MR.nil
 |some q=>
  obtain⟨b,c,sp⟩:=q;obtain⟨h1,h2,h3⟩:=W;have hc:l.length≤c:=by
   rw[CJ hf]at h3;exact cZ (oM:l.length*sz≤c*sz) O
  exact hp b _ h1 fun N Z hb=>k N Z ⟨_,c,rfl,hc,fun _=>⟨b,sp,rfl,hb⟩⟩
theorem Cj.c0h{c}(W:∀x,(f x).length=sz)(N:0<sz)(Z:BN cx.w0.heap.size sz n (l.flatMap f) g)(hn:n=l.length)(k:∀O,Le I O→MR T f O l (gV n g)→Cj cx Q c e O R):Cj cx Q c e I (gH T (l.flatMap f) g++R):=
 b5B (X:=fun I H=>Cj cx Q c e I H) W N Z hn (fun _ _ hb k=>fD hb k) k
end
theorem St.c0A{w0 w D N I0 I H}(h:St w0 D I0 I H w)(O:∀b,b∈D↔b∈N):St w0 N I0 I H w:=
 ⟨h.os,h.tape,h.output,h.size,fun b W Z=>h.frm b W (fun g=>Z ((O b).1 g)),h.sub,h.own,h.nodup,h.dis,fun p hp=>(h.new p hp).imp (O p.1).1 id,h.ifr,h.le,h.drw⟩
theorem yY.perm{P f args I H H1}{N:Ending→Heap→HL→Prop}(O:H1.Perm H)(h:yY P f args I H1 N):yY P f args I H N:=
 ⟨h.1,fun w W=>by
  obtain⟨Z,r2,r3,r4⟩:=W;have hr:Ready I H1 w:=⟨Z,fun p g=>r2 p (O.mem_iff.1 g),(O.map _).nodup_iff.2 r3,fun p g=>r4 p (O.mem_iff.1 g)⟩;refine(h.2 w hr).mono ?_;rintro e w' ⟨I',K,hk,hq⟩;exact⟨I',K,hk.c0A (fun b=>(O.map _).mem_iff),hq⟩⟩
theorem yY.leave{P f args I H}{W N:Ending→Heap→HL→Prop}(h:yY P f args I H W)(hp:∀e O H',Le I O→W e O H'→∃K S,(K++S).Perm H'∧N e O K):yY P f args I H N:=
 ⟨h.1,fun w hw=>(h.2 w hw).mono fun e w' ⟨O,H',Z,hq⟩=>by
  obtain⟨K,S,hk,a0⟩:=hp e O H' Z.le hq;exact⟨O,K,(Z.perm hk).sublist (List.sublist_append_left K S),a0⟩⟩
section
variable {cx:Cx} {Q:Qt} {o:Oper} {e:Env} {I:Heap} {H:HL} {C:Ct}
theorem LM{H1} R {d f fo xs ts fst cap vs}{W:Ending→Heap→HL→Prop}(hH:H=R++H1)
 (ho:o.op= .call ⟨.value fo,xs.toArray,ts⟩)(hd:o.dst=some d)(hn:aJ d cx.n=true)(hf:ev e fo=some (.func (.func f) fst.toArray cap.toArray))(hx:evs e xs=some vs)
 (hs:yY cx.P f (fst++vs++cap) I H1 W)
 (k:∀v O N,Le I O→W (.returned v) O N→C ((d,v)::e) O (R++N))
 (kp:∀ch O N,Le I O→W (.panicked ch) O N→Ej cx Q (.panic ch) e O (R++N))
 (ko:∀O N,¬W .outgrown O N):BZ cx Q o e I H C:=by
 subst hH;refine BZ.perm (H':=H1++R) aO fun K hK=>?_
 exact zN (C:=fun e' O H'=>∃N,H'=N++R∧C e' O (R++N)) ho hd hn hf hx hs (fun v O N Z hp=>⟨N,rfl,k v O N Z hp⟩) (fun ch O N Z hp=>Ej.perm aO (kp ch O N Z hp)) ko K
  fun e' O H' ⟨N,hH,hC⟩ a w ha hs=>hK e' O (R++N) hC a w ha (by subst hH;exact hs.perm aO)
end
section
variable {cx:Cx} {Q:Qt} {o:Oper} {e:Env} {I:Heap} {H:HL} {C:Ct}
theorem a8t{α:Type}[BEq α]{kv:α→Value}{a}{T U:Nat}{m x:Operand}{K E}{O:Value}(ho:o.op= .call ⟨.builtin .delete,#[m,x],#[T,U]⟩)(hd:o.dst=none)(hm:ev e m=some (.map none))(hx:ev e x=some O)(W:O=kv a)(hT:cx.P.underlying T=some (.map K E))(hK:CX cx.P K kv)(kk:C e I H):BZ cx Q o e I H C:=by
 intro _ Z w0 w N hs;unfold aV;subst W;have:(execOp w0.eval o).run cx.P w= .ok (.value (.tuple #[])) w:=by
  simp[execOp,ho,resolve,invoke,builtin,N.eval hm,N.eval hx,Builtin.delete_,run_underlying hT,hK.2.1]
 rw[this];simp only[aH,hd];exact Z _ _ _ kk _ _ N.TG hs
end
section
variable {cx:Cx} {Q:Qt} {o:Oper} {e:Env} {I:Heap} {H:HL} {C:Ct} {S:World→Prop} {α:Type} [BEq α] [LawfulBEq α]
def UF (m since:Nat) (vis:ML α) (last:Nat):Obj:= .mapIter (some m) since (vis.map (·.2.2)).toArray last
omit [BEq α] [LawfulBEq α] in
theorem MB{T K E d m c:Nat}{x:Operand}{kv:α→Value}{l:ML α}(W:o.op= .range T x)(Z:o.dst=some d)(hn:aJ d cx.n=true)(hx:ev e x=some (.map (some m)))(hu:cx.P.underlying T=some (.map K E))(hb:yZ (SS I H) m (zQ kv l c))
 (k:∀b,cx.w0.heap.size≤b→C ((d,ptr b 0)::e) I ((b,UF m c ([]:ML α) c)::H)):BZ cx Q o e I H C:=by
 intro _ hK a w O N;unfold aV;have:(execOp a.eval o).run cx.P w= .ok (.value (ptr w.heap.size 0)) { w with heap:=w.heap.push (UF m c ([]:ML α) c) }:=by
  have hr:=run_range_map (P:=cx.P) w T K E m _ c hu (hb w N.ss);simp only[execOp,W,O.eval hx,aB,hr,aA,aN];rfl
 rw[this];simp only[aH,Z];exact hK _ _ _ (k _ N.size) _ _ (O.put hn) (N.alloc _)
theorem KF{T K E d x}(W:o.op= .range T x)(Z:o.dst=some d)(hn:aJ d cx.n=true)(hx:ev e x=some (.map none))(hu:cx.P.underlying T=some (.map K E))
 (k:∀b,cx.w0.heap.size≤b→C ((d,ptr b 0)::e) I ((b,.mapIter none 0 #[] 0)::H)):BZ cx Q o e I H C:=by
 intro _ hK a w N O;unfold aV;have:(execOp a.eval o).run cx.P w= .ok (.value (ptr w.heap.size 0)) { w with heap:=w.heap.push (.mapIter none 0 #[] 0) }:=by
  have hr:=run_range_nilMap (P:=cx.P) w T K E hu;simp only[execOp,W,N.eval hx,aB,hr,aA,aN];rfl
 rw[this];simp only[aH,Z];exact hK _ _ _ (k _ O.size) _ _ (N.put hn) (O.alloc _)
theorem KY{d b x}(i:Nat)(W:o.op= .next x false)(Z:o.dst=some d)(hn:aJ d cx.n=true)(hx:ev e x=some (ptr b 0))(hH:H[i]?=some (b,.mapIter none 0 #[] 0))
 (k:C ((d,.tuple #[.bool false])::e) I H):BZ cx Q o e I H C:=by
 intro _ hK a w N O;unfold aV;have hb:=O.own _ (aF hH);have:(execOp a.eval o).run cx.P w= .ok (.value (.tuple #[.bool false])) w:=by
  simp only[execOp,W,N.eval hx,dV,getObj,aB,bW,hb,bY];rfl
 rw[this];simp only[aH,Z];exact hK _ _ _ k _ _ (N.put hn) O
omit [BEq α] [LawfulBEq α] in
theorem NQ{d b m N last c x kv l vis rest} i (ho:o.op= .next x false)(hd:o.dst=some d)(hn:aJ d cx.n=true)(hx:ev e x=some (ptr b 0))(hH:H[i]?=some (b,UF m N vis last))(hm:yZ (SS I H) m (zQ kv l c))
 (a8:∀p∈l,p.2.2<N)(aa:N≤last)(ab:(l.map (·.2.2)).Nodup)(Z:(vis++rest).Perm l)
 (k1:∀(p:α×Value×Nat) (r:ML α) (H':HL),rest.Perm (p::r)→(vis++[p]++r).Perm l→yX H i (b,UF m N (vis++[p]) c) H'→C ((d,.tuple #[.bool true,kv p.1,p.2.1])::e) I H')
 (k0:rest=[]→C ((d,.tuple #[.bool false])::e) I H):BZ cx Q o e I H C:=by
 intro _ hK a w ha hs;unfold aV;have hb:=hs.own _ (aF hH);have ac:=hm w hs.ss;have a9:=run_next_at (P:=cx.P) w o.type b m N last _ _ c hb ac (by
  intro y hy;simp only[aT]at hy;obtain⟨p,Z,rfl⟩:=hy;exact a8 p Z) aa
 have W:((vis++rest).map (·.2.2)).Nodup:=(Z.map _).nodup_iff.2 ab;have a1:(execOp a.eval o).run cx.P w=((dV (.pointer (some ⟨b,0,none⟩)) false o.type).run cx.P w).andThen fun v w'=> .ok (.value v) w':=by
  simp only[execOp,ho,ha.eval hx,aB];rfl
 have a6:∀p:α×Value×Nat,p∈l→((vis.map (·.2.2)).toArray.contains p.2.2=true↔p∈vis):=fun p O=>by
  have ad:p∈vis++rest:=Z.mem_iff.2 O;rw[Array.contains_iff_mem];simp only[dI,aT];constructor
  ·rintro⟨q,hq,he⟩;rcases bH.1 ad with h|h
   ·exact h
   rw[aS,aK]at W;exact absurd he (W.2.2 _ (aI hq) _ (aI h))
  exact fun h=>⟨p,h,rfl⟩
 rcases a9 with⟨h0,hr⟩|⟨en,ae,w1,af,hr⟩
 ·rw[a1,hr];simp only[aA,aH,hd];refine hK _ _ _ (k0 ?_) _ _ (ha.put hn) hs;rcases rest with _|⟨p,r⟩
  ·rfl
  exfalso
  have O:p∈l:=Z.mem_iff.1 (List.mem_append_right _ (.head _));have a3:p ∉ vis:=fun h=>by
   rw[aS,aK]at W;exact W.2.2 _ (aI h) _ (aI (.head _)) rfl
  have:FU kv p∈leftOf (l.map (FU kv)).toArray (vis.map (·.2.2)).toArray:=by
   unfold leftOf;rw[fA];refine⟨by simp only[dI];exact aI O,?_⟩;have:=(not_congr (a6 p O)).2 a3;simp only[Bool.not_eq_true]at this;show(!fG _ p.2.2)=true;rw[this];rfl
  have h1:=Array.eq_empty_of_size_eq_zero h0;rw[h1]at this;simp at this
 rw[a1,hr];simp only[aA,aH,hd];have a0:en∈leftOf (l.map (FU kv)).toArray (vis.map (·.2.2)).toArray:=by simpa using ae
 unfold leftOf at a0;rw[fA]at a0;obtain⟨a7,a4⟩:=a0;simp only[dI,aT]at a7;obtain⟨p,O,rfl⟩:=a7;have a3:p ∉ vis:=fun h=>by
  have:=(a6 p O).2 h
  change (!fG _ p.2.2)=true at a4
  rw[this]at a4;cases a4
 have ag:p∈rest:=(bH.1 (Z.mem_iff.2 O)).resolve_left a3;obtain⟨r1,r2,ah⟩:=List.append_of_mem ag;have a2:rest.Perm (p::(r1++r2)):=by rw[ah];exact bV
 have a5:(vis++[p]++(r1++r2)).Perm l:=by
  refine List.Perm.trans ?_ Z;rw[bK];exact dU _ a2.symm
 have hset:yX H i (b,UF m N (vis++[p]) c) (H.set i (b,UF m N (vis++[p]) c)):=⟨(aW.1 hH).1,rfl⟩;have hk:=k1 p (r1++r2) _ a2 a5 hset;have ai:St cx.w0 cx.D cx.I0 I (H.set i (b,UF m N (vis++[p]) c)) (ChangeMaps.setBlock w1 b (.mapIter (some m) N ((vis.map (·.2.2)).toArray.push p.2.2) c)):=by
  have he:(.mapIter (some m) N ((vis.map (·.2.2)).toArray.push p.2.2) c:Obj)=UF m N (vis++[p]) c:=by simp[UF]
  rw[show(FU kv p).born=p.2.2 from rfl]at *;rw[he];rcases af with rfl|rfl
  ·exact hs.block hH hset
  exact(hs.drewN (w.drawn+1)).block hH hset
 exact hK _ _ _ hk _ _ (ha.put hn) ai
omit [LawfulBEq α] in
theorem II{T K E m x}{kv:α→Value}{a z}{N:Value}(ho:o.op= .lookup T m x false)(hm:ev e m=some (.map none))(hx:ev e x=some N)(O:N=kv a)(hT:cx.P.underlying T=some (.map K E))(W:CX cx.P K kv)(hz:∀w,(zeroValue E).run cx.P w= .ok z w):BH cx o e S z:=by
 intro w0 w Z _;subst O;have h1:=W.1 a [] w;have h2:(aU K (kv a) []).run cx.P w= .ok none w:=h1;simp[execOp,ho,Z.eval hm,Z.eval hx,dH,run_underlying hT,W.2.1,h2,hz]
omit [BEq α] [LawfulBEq α] in
theorem KU{x:Operand}{T K E b c:Nat}{kv:α→Value}{l:ML α}(N:o.op= .call ⟨.builtin .len,#[x],#[T]⟩)(O:ev e x=some (.map (some b)))(W:cx.P.underlying T=some (.map K E))(Z:yZ S b (zQ kv l c)):BH cx o e S (i64 (l.length:Int)):=by
 intro a w ha hs;have h:=Z w hs;simp[execOp,N,resolve,invoke,builtin,fM,ha.eval O,run_underlying W,goInt,getObj,bW,h,zQ]
theorem WW{x T K E}(N:o.op= .call ⟨.builtin .len,#[x],#[T]⟩)(O:ev e x=some (.map none))(W:cx.P.underlying T=some (.map K E)):BH cx o e S (i64 0):=by
 intro a w Z _;simp[execOp,N,resolve,invoke,builtin,fM,Z.eval O,run_underlying W,goInt]
end
section
variable {P:Program} {K i:TypeId} {f0 f1:Field}
theorem XR{xs t off v w}(N:∀w,(isAgg t).run P w= .ok false w)(O:xs[off]?=some v):(part t xs off).run P w= .ok v w:=by
 simp[part,N,O]
theorem YO(W:P.underlying K=some (.struct #[f0,f1]))(hp:P.stoodInHeld K=false)(n0:f0.name≠ "_")(n1:f1.name≠ "_")(o0:f0.offset=0)(o1:f1.offset=1)(a0:∀w,(isAgg f0.type).run P w= .ok false w)(a1:∀w,(isAgg f1.type).run P w= .ok false w)
 {x0 x1 y0 y1 N O} w (e0:∀d w,(aX (d+1) f0.type x0 y0).run P w= .ok N w)(Z:∀d w,(aX (d+1) f1.type x1 y1).run P w= .ok O w):∀d,(aX (d+2) K (.agg #[x0,x1]) (.agg #[y0,y1])).run P w= .ok (N && O) w:=by
 intro d;have hf:P.fieldsOf K= #[f0,f1]:=by simp[Program.fieldsOf,W]
 rw[run_equalIn_struct w (d+1) K _ _ (by rw[hf];exact W) hp,hf];have p0:∀(a b:Value) w,(part f0.type #[a,b] f0.offset).run P w= .ok a w:=fun a b w=>XR a0 (by rw[o0];rfl);have p1:∀(a b:Value) w,(part f1.type #[a,b] f1.offset).run P w= .ok b w:=fun a b w=>XR a1 (by rw[o1];rfl);simp only[Op.eqFields,n0,n1,ne_eq,not_false_eq_true,if_true,aB,p0,p1,e0,Z,aA];cases N
 ·simp
 cases O<;>simp[aB,p1,Z]
theorem a2G(W:P.underlying K=some (.struct #[f0,f1]))(Z:f0.name≠ "_")(n1:f1.name≠ "_")(o0:f0.offset=0)(o1:f1.offset=1)(a0:∀w,(isAgg f0.type).run P w= .ok false w)(a1:∀w,(isAgg f1.type).run P w= .ok false w)
 {x0 x1} b w (e0:∀d w,(aC b (d+1) f0.type x0).run P w= .ok () w)(e1:∀d w,(aC b (d+1) f1.type x1).run P w= .ok () w):∀d,(aC b (d+2) K (.agg #[x0,x1])).run P w= .ok () w:=by
 intro d;have p0:∀w,(part f0.type #[x0,x1] f0.offset).run P w= .ok x0 w:=fun w=>XR a0 (by rw[o0];rfl);have p1:∀w,(part f1.type #[x0,x1] f1.offset).run P w= .ok x1 w:=fun w=>XR a1 (by rw[o1];rfl);have N:=e0 d;have O:=e1 d;generalize hc:aC b (d+1)=ck at N O;rw[show d+2=(d+1)+1 from rfl,aC];rw[hc];simp[aB,run_underlying W,Z,n1,p0,p1,N,O]
theorem a5E{b t k}(N:P.underlying t=some (.int k)) a d w:(aC b (d+1) t (.int k a)).run P w= .ok () w:=by simp[aC,run_underlying N]
theorem CX.b2m(Z:P.underlying K=some (.struct #[f0,f1]))(hp:P.stoodInHeld K=false)(n0:f0.name≠ "_")(n1:f1.name≠ "_")(o0:f0.offset=0)(o1:f1.offset=1)(t0:f0.type=i)(N:f1.type=i)(O:P.underlying i=some (.int .i64))(W:∀w,(isAgg i).run P w= .ok false w):
 CX P K (fun a:Int×Int=> .agg #[i64 a.1,i64 a.2]):=by
 subst t0;refine CX.equal Z (fun a b=>rfl) (fun a b w=>?_) (fun b a w=>?_) (fun a=>?_)
 ·have h:=YO Z hp n0 n1 o0 o1 W (N▸W) (x0:=i64 a.1) (x1:=i64 a.2) (y0:=i64 b.1) (y1:=i64 b.2) w (fun d w=>run_equalIn_int w d _ .i64 .i64 a.1 b.1 O) (fun d w=>run_equalIn_int w d _ .i64 .i64 a.2 b.2 (N▸O)) 9998;exact h
 ·exact a2G Z n0 n1 o0 o1 W (N▸W) b w (fun d w=>a5E O _ d w) (fun d w=>a5E (N▸O) _ d w) 9998
 show aP (9999+1) _ _=true;simp[aP]
