/-
  Own texts on the laws of the seat, joined: the logic, and contracts of functions. Conditions: none.
-/
import Derived.Test.YtalapkjmkjmpjaaGreatDoorNmK
import Derived.Test.YtalapkjmkjmpjaaGreatDoorPK1
import Derived.Laws.RangeAny
import Derived.Scope
import Derived.Below
import Derived.Lib.Builder
import Derived.Lib.UnsafeStr
import Derived.Laws.Externs
import Derived.Recover
import Derived.Laws.MakeOwn
import Derived.LoopN
import Derived.Test.YtalapkjmkjmpjaaGreatDoorChecked
import Derived.Tactics
import Derived.Tactics2
import Derived.Laws.Pointers
import Derived.Laws.LoneSync
import Derived.RegionTactic
import Derived.RegionCalls
import Derived.ChangeAlike
import Derived.RangeFuncRecord
import Derived.Lib.TrimUEq
import Derived.Lib.TrimAscii
import Derived.Lib.MapLaws
set_option linter.all false
set_option maxRecDepth 100000
set_option maxHeartbeats 40000000
open UInt8 renaming ofNat -> aA
open Go.Result renaming andThen_ok -> aB,andThen -> bQ
open Go.Sem renaming run_bind -> aC,run_pure -> aJ,run -> bD
open Go.Sx.World renaming block -> aF
open Go.Instr renaming findKey -> aG,sameNow -> aN,checkKey -> aO,findNow -> aQ,sameBits -> aU,mapUpdate -> bF,lookup -> bG,findAsking -> bM,keyThatStays -> bY,typeAssert -> cO
open Go.Oper renaming upon -> aH,wp -> aT
open Nat renaming blt -> aI
open Go.Proofs.Tryz renaming prog -> aK
open Go.Utf8 renaming decode -> aP,encode -> bP,valid -> bV
open Go.Op renaming equalIn -> aS,maxDepth -> bZ
open Go.Fence renaming wide -> aV
open Go.Deferred renaming ofValue -> aW
open Go.Lib renaming decodeL_width -> aX,decodeL_drop -> bH,decodeL_rune -> bW
open Option renaming isSome_iff_exists -> aY
open List renaming replicate -> aZ,map_toArray -> bC,drop_append -> cZ
open Go.Sx.St renaming start -> bI
open Option.some renaming injEq -> bJ
open Go.Addr renaming add_lit -> bK
open Go.Sx.BL renaming z -> bT
open Go.Region renaming wanted -> bU
open Go.Value renaming func -> dA,oneCell' -> dB
open Go.Sx.Has renaming start -> dD
open Prod.mk renaming injEq -> dF
open Go.World renaming frozen? -> dG
open Go.Extern.AbiNoEscape renaming same -> dH
namespace Go.Sx
open Go Go.RowKit
theorem St.below{w w' I}(M:Ready I [] w)(h:Below w.heap.size w w'):St w [] I I [] w':=by
 have N:∀{b:Nat} {o':Obj},w.heap[b]?=some o'→b<w.heap.size:=fun {b o'} A=>by
  rcases tC b w.heap.size with G|G
  ·exact G
  simp[yR G]at A
 exact⟨h.os,h.tape,h.output,h.size,fun b A _=>h.block b A,fun b o A=>by rw[h.block b (N (M.1 b o A))];exact M.1 b o A,sI,sI,sI,sI,fun _ _=>rfl,Le.refl _,a2u⟩
theorem Pure.of_below{P f args I v}(G:Enters P f)(h:∀w,Ready I [] w→Calls P f args.toArray w fun e w'=>e= .returned v∧Below w.heap.size w w'):Pure P f args I v:=
 ⟨G,fun w A=>(h w A).mono fun _ _ ⟨h1,h2⟩=>⟨I,[],St.below A h2,h1,rfl,rfl⟩⟩
theorem Pure.of_same{P f args I v}(A:Enters P f)(h:∀w,Ready I [] w→Calls P f args.toArray w fun e w'=>e= .returned v∧w'=w):Pure P f args I v:=
 Pure.of_below A fun w G=>(h w G).mono fun _ _ ⟨h1,h2⟩=>⟨h1,h2▸Below.refl _ _⟩
theorem Enters.of{P f fn}(h:P.funcs[f]?=some fn)(h1:fn.name≠ "runtime.NumGoroutine")(h2:fn.body.isNone=false):Enters P f:=⟨fn,h,h1,h2⟩
section
variable {cx:Cx} {Q:Qt} {e:Env} {I:Heap} {H:HL} {o:Oper} {C:Ct} {S:World→Prop}
theorem Cj.scope{c}(h:Cj cx (Exit.noGoto Q) c e I H)(A:cx.rd=none:=by rfl):Cj cx Q (.scope c) e I H:=Cj.of_wp A fun _ _ G M=>wp_scope_straight (h.wp A G M)
theorem Ej.b3p(h:Ej cx Q .ret e I H):Ej cx (Exit.noGoto Q) .ret e I H:=h
theorem OJ{T d x s}(M:o.op= .range T x)(N:o.dst=some d)(O:aI d cx.n=true)(Z:ev e x=some (.string s))(hu:cx.P.underlying T=some .string)
 (k:∀b,cx.w0.heap.size≤b→C ((d,ptr b 0)::e) I ((b,.stringIter s 0)::H)):EZ cx Q o e I H C:=by
 intro K hK a w A G;unfold aT;have:(execOp a.eval o).run cx.P w= .ok (.value (ptr w.heap.size 0)) { w with heap:=w.heap.push (.stringIter s 0) }:=by
  simp only[execOp,M,A.eval Z,aC,run_range_string w T s hu,aB,aJ];rfl
 rw[this];simp only[aH,N];exact hK _ _ _ (k _ G.size) _ _ (A.put O) (G.alloc _)
theorem ZA{d b pos x s H'} i (O:o.op= .next x true)(Z:o.dst=some d)(hn:aI d cx.n=true)(hx:ev e x=some (ptr b 0))(A:H[i]?=some (b,.stringIter s pos))(hp:pos<s.size)
 (G:BL H i (b,.stringIter s (pos+(aP s pos).2)) H')(k:C ((d,.tuple #[.bool true,.int .i64 pos,.int .i32 (aP s pos).1])::e) I H'):EZ cx Q o e I H C:=by
 intro K hK a w M N;unfold aT;have hb:=N.own _ (vS A);have:(execOp a.eval o).run cx.P w= .ok (.value (.tuple #[.bool true,.int .i64 pos,.int .i32 (aP s pos).1])) (aF w b (.stringIter s (pos+(aP s pos).2))):=by
  simp only[execOp,O,M.eval hx,Instr.next,getObj,setObj,aC,bD,hb,bQ,hp,if_true];simp[goInt,aF]
 rw[this];simp only[aH,Z];exact hK _ _ _ k _ _ (M.put hn) (N.block A G)
theorem UC{d b pos x s}(i:Nat)(M:o.op= .next x true)(N:o.dst=some d)(O:aI d cx.n=true)(Z:ev e x=some (ptr b 0))(hH:H[i]?=some (b,.stringIter s pos))(hp:¬pos<s.size)
 (k:C ((d,.tuple #[.bool false])::e) I H):EZ cx Q o e I H C:=by
 intro K hK a w A G;unfold aT;have hb:=G.own _ (vS hH);have:(execOp a.eval o).run cx.P w= .ok (.value (.tuple #[.bool false])) w:=by
  simp[execOp,M,A.eval Z,Instr.next,getObj,aC,bD,hb,bQ,hp]
 rw[this];simp only[aH,N];exact hK _ _ _ k _ _ (A.put O) G
theorem c0F{A T x k r}(G:o.op= .convert A T x)(M:ev e x=some (.int k r))(N:cx.P.underlying A=some (.int k))(O:cx.P.underlying T=some .string):BN cx o e S (str (bP r).data.toList):=by
 intro a w Q _;simp[execOp,G,Q.eval M,convert,run_underlying N,run_underlying O,str,Conv.intToString]
end
end Go.Sx
namespace Go.Sx
open Go
theorem a0E{w:World}{b cs t fr}(h:w.heap[b]?=some (.cells cs t fr)):w.shape? b=some (t,cs.size):=by simp[World.shape?,h]
theorem yY.still{P f args I H}{A:Ending→HL→Prop}(h:yY P f args I H (fun e _ H'=>A e H')):yY P f args I H (fun e G H'=>I=G∧A e H'):=h.forget fun _ _ _ _ M=>⟨rfl,M⟩
theorem b8F{b t:Nat×Obj}{G:HL}:List.Sublist [t] (b::t::G):= .cons _ (.cons_cons _ (List.nil_sublist _))
theorem a1B n g:(gV n g).cells=[gV n g].toArray:=by cases g<;>rfl
theorem a9i n g:[gV n g].all dB=true:=by cases g<;>rfl
section
variable {cx:Cx} {Q:Qt} {e:Env} {I:Heap} {H:HL} {o:Oper} {C:Ct} {S:World→Prop}
theorem c0i{P w T A j} p (G:P.underlying T=some (.pointer A))(M:P.info? A=some j):(binOp .eql T (.pointer p) (.pointer none)).run P w= .ok (.bool p.isNone) w:=by
 have h:∀d:Nat,(aS (d+1) T (.pointer p) (.pointer none)).run P w= .ok p.isNone w:=fun d=>by
  cases p<;>simp[aS,run_underlying G,sizeOf,typeInfo,samePointer]
 simp only[binOp];simp[Op.equal,bZ,h 9999]
theorem c0U{x y T U A} p (N:o.op= .binOp .eql T x y U)(O:ev e x=some (.pointer p))(Q:ev e y=some (.pointer none))(Z:cx.P.underlying T=some (.pointer A))(G:(cx.P.info? A).isSome=true):BN cx o e S (.bool p.isNone):=by
 intro a w M _;obtain⟨j,hj⟩:=aY.1 G;have hb:=c0i (P:=cx.P) (w:=w) p Z hj;have hg:eqGuard .eql T x y (.pointer p) (.pointer none)=pure ():=rfl;simp[execOp,N,M.eval O,M.eval Q,hb,hg]
theorem b9S{x y T U A b off}(N:o.op= .binOp .neq T x y U)(O:ev e x=some (ptr b off))(Q:ev e y=some (ptr b off))(Z:cx.P.underlying T=some (.pointer A))(G:(cx.P.info? A).isSome=true):BN cx o e S (.bool false):=by
 intro a w M _;obtain⟨j,hj⟩:=aY.1 G;have hb:=Lib.run_neq_ptr_same (P:=cx.P) w ⟨b,off,none⟩ Z hj;have hg:eqGuard .neq T x y (ptr b off) (ptr b off)=pure ():=rfl;simp[execOp,N,M.eval O,M.eval Q,hb,hg]
theorem b6H{x G T M b off} z {cs:List Value}{t fr}(Q:o.op= .convert G T x)(Z:ev e x=some (ptr b off))(hS:cx.P.underlying G=some (.pointer M))(hT:cx.P.underlying T=some .unsafePointer)(N:(cx.P.info? M).map (·.size)=some (z+1))
 (hb:yX S b (.cells cs.toArray t fr))(A:off<cs.length):BN cx o e S (ptr b off):=by
 intro a w ha hs;obtain⟨j,hj,O⟩:=sO.1 N;have O:j.size≠0:=oM;have h:=Lib.run_to_unsafe (P:=cx.P) (w:=w) ⟨b,off,none⟩ hS hT hj O (a0E (hb w hs)) (by simpa using A);simp[execOp,Q,ha.eval Z,h]
theorem b2O{x G T A b off}{cs:List Value}{t fr}(N:o.op= .convert G T x)(O:ev e x=some (ptr b off))(Q:cx.P.underlying G=some .unsafePointer)(Z:cx.P.underlying T=some (.pointer A))(M:(cx.P.info? A).isSome=true)
 (hb:yX S b (.cells cs.toArray t fr))(hl:liesAt cx.P cx.P.depth t (cs.length / cx.P.cellsOf t) off A 1=true):BN cx o e S (ptr b off):=by
 intro a w ha hs;obtain⟨j,hj⟩:=aY.1 M;have h:=Lib.run_from_unsafe (P:=cx.P) (w:=w) ⟨b,off,none⟩ Q Z hj (a0E (hb w hs)) (by simpa using hl);simp[execOp,N,ha.eval O,h]
theorem b6V{f fn A x ts v}(M:o.op= .call ⟨.value A,#[x],ts⟩)(N:ev e A=some (.func (.func f) #[] #[]))(O:ev e x=some v)(h1:cx.P.funcs[f]?=some fn)(h2:(fn.name == "runtime.NumGoroutine")=false)(h3:fn.body.isNone=true)
 (Q:Extern.findNext fn=none)(Z:Extern.find fn=some dH):BN cx o e S v:=by
 intro a w G _;have h:=run_callFunc_extern h1 h2 h3 Q Z #[v] w;simp[execOp,M,resolve,invoke,G.eval N,G.eval O,h,aW,Lib.run_noEscape,bQ]
theorem b5q{x T b off n c}(A:o.op= .call ⟨.builtin .unsafeSliceData,#[x],#[T]⟩)(G:ev e x=some (.slice (some ⟨b,off,none⟩) n c))(M:c≠0):BN cx o e S (ptr b off):=by
 intro a w N _;have h:=fun O=>Lib.run_unsafeSliceData_row (P:=cx.P) (w:=w) #[T] O ⟨b,off,none⟩ n c M;simp[execOp,A,resolve,invoke,N.eval G,builtin,h]
theorem a9k{x T n c}(A:o.op= .call ⟨.builtin .unsafeSliceData,#[x],#[T]⟩)(G:ev e x=some (.slice none n c)):BN cx o e S (.pointer none):=by
 intro a w M _;have h:=fun N=>Lib.run_unsafeSliceData_nil (P:=cx.P) (w:=w) #[T] N n c;simp[execOp,A,resolve,invoke,M.eval G,builtin,h]
theorem a4H{x y p T U}(G:o.op= .call ⟨.builtin .unsafeString,#[x,y],#[T,U]⟩)(M:ev e x=some (.pointer p))(N:ev e y=some (i64 0)):BN cx o e S (str []):=by
 intro a w A _;have h:=fun O=>Lib.run_unsafeString_none (P:=cx.P) (w:=w) T U O p;simp[execOp,G,resolve,invoke,A.eval M,A.eval N,builtin,h];rfl
theorem a8S{x y T U E d b} i l {cs H'}(ho:o.op= .call ⟨.builtin .unsafeString,#[x,y],#[T,U]⟩)(hd:o.dst=some d)(hn:aI d cx.n=true)(hx:ev e x=some (ptr b 0))(hy:ev e y=some (i64 l.length))
 (hT:cx.P.underlying T=some (.pointer E))(hE:cx.P.cellsOf E=1)(A:H[i]?=some (b,yV E (DJ l++cs)))(h0:l≠[])(O:l.length≤9223372036854775807)(Z:BL H i (b,.cells (DJ l++cs).toArray E (0,l.length)) H')(k:C ((d,str l)::e) I H'):EZ cx Q o e I H C:=by
 intro K hK a w G M;unfold aT;have N:=M.own _ (vS A);have h:=fun ty=>Lib.run_unsafeString_row (P:=cx.P) (w:=w) T U ty E hT hE b (DJ l++cs).length (by rw[a0E N];simp) l h0 (by rw[wV,NT];omega) O (fun j x hj=>by
  rw[bK];refine cell_of_heap N ?_;rw[xJ (by rw[NT,sS];exact(xC.1 hj).1)];simp[DJ,hj])
 have a0:w.freeze ⟨b,0,none⟩ l.length=aF w b (.cells (DJ l++cs).toArray E (0,l.length)):=by
  have hl:l.length≠0:=by simpa using h0
  unfold World.freeze aF;rw[zD hl]
  congr 1
  apply yT
  intro k;rw[yQ,Array.getElem?_setIfInBounds]
  by_cases hk:b=k
  ·subst hk;have a1:b<w.heap.size:=M.lt (vS A);rw[zF rfl,zF rfl,zF a1,show w.heap[b]?=_ from N];simp[yV]
  simp[hk]
 have:(execOp a.eval o).run cx.P w= .ok (.value (str l)) (aF w b (.cells (DJ l++cs).toArray E (0,l.length))):=by
  simp[execOp,ho,resolve,invoke,G.eval hx,G.eval hy,builtin,h,a0,str]
 rw[this];simp only[aH,hd];exact hK _ _ _ k _ _ (G.put hn) (M.block A Z)
end
section
variable {cx:Cx} {Q:Qt} {e:Env} {I:Heap} {H:HL} {o:Oper} {C:Ct}
theorem c4K{x T v}(G:o.op= .panic x)(M:ev e x=some (.iface T v))(k:Ej cx Q (.panic [{ v:= .iface T v,recovered:=false }]) e I H):EZ cx Q o e I H C:=by
 intro K _ a w A N;unfold aT;have:(execOp a.eval o).run cx.P w= .halt (.panic (.iface T v)) w:=by
  simp[execOp,G,A.eval M,Instr.panic,goPanic]
 rw[this];exact k a w A N
end
theorem run_checkKey{P K}(A:P.underlying K=some .string) b v w:(aO b 10000 K (str v)).run P w= .ok () w:=by
 have h:∀n,(aO b (n+1) K (str v)).run P w= .ok () w:=fun n=>by simp[aO,run_underlying A,str]
 exact h 9999
section
variable {cx:Cx} {Q:Qt} {e:Env} {I:Heap} {H:HL} {o:Oper} {C:Ct} {S:World→Prop}
def ent (k:List UInt8) (v:Value):MapEntry:={ key:=str k,val:=v,born:=0 }
theorem BG{T d}(G:o.op= .makeMap T none)(M:o.dst=some d)(N:aI d cx.n=true)(k:∀b,cx.w0.heap.size≤b→C ((d,.map (some b))::e) I ((b,.map #[] 0)::H)):EZ cx Q o e I H C:=by
 intro K O a w Z A;unfold aT;have:(execOp a.eval o).run cx.P w= .ok (.value (.map (some w.heap.size))) { w with heap:=w.heap.push (.map #[] 0) }:=by
  simp[execOp,G,Instr.makeMap,newObj,bD]
 rw[this];simp only[aH,M];exact O _ _ _ (k _ A.size) _ _ (Z.put N) (A.alloc _)
theorem b9f{T K E b m x y k v H'} i (ho:o.op= .insert T m x y)(hd:o.dst=none)(hm:ev e m=some (.map (some b)))(hx:ev e x=some (str k))(hy:ev e y=some v)(hT:cx.P.underlying T=some (.map K E))(G:cx.P.underlying K=some .string)
 (M:H[i]?=some (b,.map #[] 0))(N:BL H i (b,.map #[ent k v] 1) H')(kk:C e I H'):EZ cx Q o e I H C:=by
 intro _ O a w A Z;unfold aT;have hb:=Z.own _ (vS M);have a0:=fun b'=>run_checkKey (P:=cx.P) G b' k w;have:(execOp a.eval o).run cx.P w= .ok .skip (aF w b (.map #[ent k v] 1)):=by
  simp[a0,execOp,ho,A.eval hm,A.eval hx,A.eval hy,bF,run_underlying hT,run_underlying G,getObj,setObj,bD,hb,aG,aQ,aF,ent]
 rw[this];simp only[aH,hd];exact O _ _ _ kk _ _ A.XB (Z.block M N)
theorem b5b{T K E b c m x k v}(O:o.op= .lookup T m x true)(Q:ev e m=some (.map (some b)))(Z:ev e x=some (str k))(hT:cx.P.underlying T=some (.map K E))(A:cx.P.underlying K=some .string)
 (hb:yX S b (.map #[ent k v] c)):BN cx o e S (.tuple #[v,.bool true]):=by
 intro a w G hs;have h:=hb w hs;have M:=fun b'=>run_checkKey (P:=cx.P) A b' k w;have N:aN .string (str k) (str k)=some true:=by
  simp only[aN,str,bJ];show(k.toArray == k.toArray)=true;simp
 simp[execOp,O,G.eval Q,G.eval Z,bG,run_underlying hT,run_underlying A,getObj,bD,h,M,aG,aQ,N,ent]
theorem b3a{T K E b c m x k y v z}(A:y≠k)(Q:o.op= .lookup T m x true)(Z:ev e m=some (.map (some b)))(hx:ev e x=some (str y))(hT:cx.P.underlying T=some (.map K E))(G:cx.P.underlying K=some .string)(hz:∀w,(zeroValue E).run cx.P w= .ok z w)
 (hb:yX S b (.map #[ent k v] c)):BN cx o e S (.tuple #[z,.bool false]):=by
 intro a w M hs;have h:=hb w hs;have N:=fun b'=>run_checkKey (P:=cx.P) G b' y w;have O:aN .string (str y) (str k)=some false:=by
  simp only[aN,str,bJ];show(y.toArray == k.toArray)=false;simpa using A
 simp[execOp,Q,M.eval Z,M.eval hx,bG,run_underlying hT,run_underlying G,getObj,bD,h,N,aG,aQ,O,ent,hz]
end
def VQ (P:Program) (f:FuncId) (args:List Value) (u:FrameMode) (I:Heap) (H:HL) (post:FrameMode→Heap→HL→Prop):Prop:=
 Enters P f∧∀w,Ready I H w→CallsD P f args.toArray u w fun e u' w'=>(∃v,e= .returned v)∧∃I' H',St w (H.map (·.1)) I I' H' w'∧post u' I' H'
theorem yY.b3O{P f fn c args I H}{A:Ending→Heap→HL→Prop}(N:P.funcs[f]?=some fn)(O:fn.body=some c)(M:fn.name≠ "runtime.NumGoroutine")
 (Q:args.length≤fn.ntmps)
 (h:∀w0,Ready I H w0→Cj ⟨P,fn.ntmps,w0,H.map (·.1),I,[],none⟩ (bodyPostD P fn (RR w0 (H.map (·.1)) I A)) c (PE 0 args) I H):yY P f args I H A:=by
 refine⟨⟨fn,N,M,by simp[O]⟩,fun w G=>?_⟩;refine calls_of_wp_defers N O ?_;exact(h w G).wp rfl (dD args fn.ntmps Q) (bI w I H G.1 G.2.1 G.2.2.1 G.2.2.2)
section
variable {cx:Cx} {Q:Qt} {e:Env} {I:Heap} {H:HL} {o:Oper} {C:Ct}
theorem J.defer{N l f O xs ts}{A G vs:List Value}(hg:o.guard=none)(ho:o.op= .defer ⟨.value O,xs.toArray,ts⟩)(hd:o.dst=none)
 (hf:ev e O=some (.func (.func f) A.toArray G.toArray))(hx:evs e xs=some vs)
 (k:J { cx with ds:=⟨.fn (.func f) G.toArray,(A++vs).toArray⟩::cx.ds } Q N l e I H)(Z:cx.rd=none:=by rfl):J cx Q N (o::l) e I H:=by
 intro a w M hs;refine wpListIn_plain hg fun K hK=>a7w (.inl Z) ?_;unfold aT;have hr:(execOp a.eval o).run cx.P w= .ok (.defer ⟨.fn (.func f) G.toArray,(A++vs).toArray⟩) w:=by
  have a0:xs.toArray.map a.eval=vs.toArray:=by rw[bC,M.a0a hx]
  simp[execOp,ho,resolve,a0,M.eval hf,aW]
 rw[hr];simp only[aH,hd];exact hK _ _ (k _ _ ⟨M.size,by simp[Act.put,M.defs],fun t v h=>M.get t v h⟩ hs)
def a5v (cx:Cx) (fn:Func) (post:Ending→Heap→HL→Prop) (e:Env) (I:Heap) (H:HL):Prop:=
 ∀a w,Has a cx.n e cx.ds→St cx.w0 cx.D cx.I0 I H w→∃v,(results fn a.tmps).run cx.P w= .ok v w∧RR cx.w0 cx.D cx.I0 post (.returned v) w
theorem a3k{P fn tmps}{R:Ending→World→Prop}{f G vs u w w0 D I0 H1 R1}{N:FrameMode→Heap→HL→Prop}(hu:u≠ .run)
 (hs:VQ P f (vs++G) u I H1 N)(A:St w0 D I0 I (H1++R1) w){ds}
 (k:∀u' O M w',Le I O→N u' O M→St w0 D I0 O (M++R1) w'→Leaves P fn tmps R ds (settle u') w'):
 Leaves P fn tmps R (⟨.fn (.func f) G.toArray,vs.toArray⟩::ds) u w:=by
 refine leaves_cons (f:=f) (args:=(vs++G).toArray) hu (by have h:=MX hs.1 (vs++G).toArray w;simpa[invoke]using h) ?_;have Q:Ready I H1 w:=⟨A.sub,fun p Z=>A.own p (vZ _ Z),by
  have:=A.nodup;rw[wG,vK]at this;exact this.1,fun p Z=>A.dis p (vZ _ Z)⟩
 refine(hs.2 w Q).mono ?_;rintro _ u' w' ⟨⟨v,rfl⟩,O,M,a0,Z⟩;exact k u' O M w' a0.le Z (A.call a0)
theorem Ej.leave{fn}{A:Ending→Heap→HL→Prop}{x u H1 R1 f Q vs}{G:FrameMode→Heap→HL→Prop}
 (hx:(x= .ret∧u= .returning)∨(x= .normal∧u= .returning)∨∃Z,x= .panic Z∧u= .panicking Z)(a0:cx.ds=[⟨.fn (.func f) Q.toArray,vs.toArray⟩])(hs:VQ cx.P f (vs++Q) u I H1 G)
 (k:∀O N M,Le I N→G O N M→settle O= .returning∧a5v cx fn A e N (M++R1)):
 Ej cx (bodyPostD cx.P fn (RR cx.w0 cx.D cx.I0 A)) x e I (H1++R1):=by
 intro a w ha a1;have key:u≠ .run→Leaves cx.P fn a.tmps (RR cx.w0 cx.D cx.I0 A) a.defers u w:=fun hu=>by
  rw[ha.defs,a0];refine a3k hu hs a1 fun O N M w' a2 hp a3=>?_;obtain⟨h1,h2⟩:=k O N M a2 hp;rw[h1];exact h2 a w' ha a3
 rcases hx with⟨rfl,rfl⟩|⟨rfl,rfl⟩|⟨Z,rfl,rfl⟩
 ·exact key sI
 ·exact key sI
 exact key sI
theorem a5v.d1c{fn}{A:Ending→Heap→HL→Prop}{H' t M N T T2 T3 b O Q n x y}{cs:List Value}{ty a0 a1 fr a2 a3}(hk:Keeps H' H)(hr:fn.results= #[.cell t T,.cell M T2,.cell N T3])
 (hv:eg e t=some (ptr b 0))(a4:eg e M=some (ptr O 0))(a5:eg e N=some (ptr Q 0))(hb:yX (SS I H) b (.cells cs.toArray ty fr))(a6:yX (SS I H) O (.cells #[x] a0 a2))(a7:yX (SS I H) Q (.cells #[y] a1 a3))
 (a8:∀w,(isAgg T).run cx.P w= .ok true w)(a9:∀w,(isAgg T2).run cx.P w= .ok false w)(aa:∀w,(isAgg T3).run cx.P w= .ok false w)(ab:∀w,(sizeOf T).run cx.P w= .ok n w)(hn:cs.length=n)(hp:A (.returned (.tuple #[.agg cs.toArray,x,y])) I H'):
 a5v cx fn A e I H:=by
 intro a w Z G;have h1:=Z.get t _ hv;have h3:=Z.get M _ a4;have h4:=Z.get N _ a5;have hc:∀j v,cs[j]?=some v→w.cell? ((⟨b,0,none⟩:Addr).add j)=some v:=fun j v hj=>by
  rw[bK];exact cell_of_heap (hb w G.ss) (by simpa using hj)
 have h2:=run_loadCells_list (P:=cx.P) (w:=w) ⟨b,0,none⟩ cs hc;rw[hn]at h2;have c2:w.cell? ⟨O,0,none⟩=some x:=cell_of_heap (cs:=[x]) (a6 w G.ss) rfl;have c3:w.cell? ⟨Q,0,none⟩=some y:=cell_of_heap (cs:=[y]) (a7 w G.ss) rfl;refine⟨.tuple #[.agg cs.toArray,x,y],?_,I,H',G.sublist hk,hp⟩;simp[results,hr,h1,h3,h4,asAddr,loadVar,a8,a9,aa,ab,h2,c2,c3]
theorem b6F{P id G M A t2}{Q:Exit→Act→List Frame→World→Prop}{a cs cs' w v ty}(a4:G.op= .call ⟨.builtin .recover,#[],ty⟩)(N:G.guard=none)(O:G.dst=some A)(a5:M.op= .assign (.tmp A))(Z:M.guard=none)(a0:M.dst=some t2)
 (a6:A<a.tmps.size)(a3:recoverD cs=some (v,cs')∨(recoverD cs=none∧v= .nilIface∧cs'=cs))(k:Q .normal ((a.put (some A) v).put (some t2) v) cs' w):(Code.region id #[G,M] false).wpS P Q a cs w:=by
 refine wpS_region ?_;have hl:List.range (#[G,M]:Array Oper).size=[0,1]:=rfl;rw[hl];have a1:(execOp a.eval G).run P w= .ok .recover w:=by simp[execOp,a4,resolve,invoke,builtin]
 have he:(a.put (some A) v).eval (.tmp A)=v:=by simp[Act.eval,Act.put,a6]
 have a2:∀c,(execOp (a.put (some A) v).eval M).run P c= .ok (.value v) c:=fun c=>by simp only[execOp,a5,he,aJ]
 rcases a3 with h|⟨h,rfl,rfl⟩
 ·simp[wpOpsS,bU,N,Z,a1,h,O,a2,aH,a0,k]
 simp[wpOpsS,bU,N,Z,a1,h,O,a2,aH,a0,k]
theorem VQ.recover{P f fn rest args H}{O:FrameMode→Heap→HL→Prop}{id o1 o2 Q t2 ty u} v G
 (hf:P.funcs[f]?=some fn)(hb:fn.body=some (.seq (.region id #[o1,o2] false) rest))(a0:fn.name≠ "runtime.NumGoroutine")(hn:args.length≤fn.ntmps)
 (a4:o1.op= .call ⟨.builtin .recover,#[],ty⟩)(a5:o1.guard=none)(a6:o1.dst=some Q)(a7:o2.op= .assign (.tmp Q))(a8:o2.guard=none)(a9:o2.dst=some t2)(a1:Nat.blt Q fn.ntmps=true)(aa:Nat.blt t2 fn.ntmps=true)
 (a2:∀(A:Frame) (cs:List Frame),A.mode=u→recoverD (A::cs)=some (v,{ A with mode:=G }::cs)∨(recoverD (A::cs)=none∧v= .nilIface∧G=u))
 (h:∀w0,Ready I H w0→Cj ⟨P,fn.ntmps,w0,H.map (·.1),I,[],none⟩ (bodyPost P fn (RR w0 (H.map (·.1)) I fun e M H'=>(∃x,e= .returned x)∧O G M H')) rest ((t2,v)::(Q,v)::PE 0 args) I H):
 VQ P f args u I H O:=by
 refine⟨⟨fn,hf,a0,by simp[hb]⟩,fun w Z=>?_⟩;refine callsD_of_wpS hf hb fun A cs hc=>?_;have ab:=bI w I H Z.1 Z.2.1 Z.2.2.1 Z.2.2.2;have ha:=dD args fn.ntmps hn;have ac:=(ha.put (v:=v) a1).put (v:=v) aa;have ad:=ha.size;have a3:Q<fn.ntmps:=by simpa[Nat.blt_eq]using a1
 refine wpS_seq ?_;refine b6F a4 a5 a6 a7 a8 a9 (by rw[ad];exact a3) (v:=v) (cs':={ A with mode:=G }::cs) ?_ ?_
 ·rcases a2 A cs hc with h|⟨h1,h2,h3⟩
  ·exact .inl h
  exact .inr ⟨h1,h2,by rw[h3,←hc]⟩
 show rest.wpS P (bodyPostS P fn A cs _) _ ({ A with mode:=G }::cs) w;refine wpS_of_wp ?_;refine Code.wp_mono (fun x a w' N=>?_) ((h w Z).wp rfl ac ab);cases x with
 |normal=>obtain⟨h1,y,h2,M,H',h3,h4,h5⟩:=N;exact⟨h1,G,rfl,y,h2,⟨y,rfl⟩,M,H',h3,h5⟩
 |ret=>obtain⟨h1,y,h2,M,H',h3,h4,h5⟩:=N;exact⟨h1,G,rfl,y,h2,⟨y,rfl⟩,M,H',h3,h5⟩
 |panic ch=>obtain⟨h1,M,H',h3,⟨x,h4⟩,h5⟩:=N;cases h4
 |exit id=>exact N.elim
 |goto l=>exact N.elim
 |outgrown=>obtain⟨M,H',h3,⟨x,h4⟩,h5⟩:=N;cases h4
theorem a9m{P w T t u ms}(A:P.underlying T=some (.interface ms)):(binOp .neq T (.iface t u) .nilIface).run P w= .ok (.bool true) w∧(binOp .neq T .nilIface .nilIface).run P w= .ok (.bool false) w
 ∧(binOp .eql T (.iface t u) .nilIface).run P w= .ok (.bool false) w∧(binOp .eql T .nilIface .nilIface).run P w= .ok (.bool true) w:=by
 have h1:∀d:Nat,(aS (d+1) T (.iface t u) .nilIface).run P w= .ok false w:=fun d=>by simp[aS,run_underlying A]
 have h2:∀d:Nat,(aS (d+1) T .nilIface .nilIface).run P w= .ok true w:=fun d=>by simp[aS,run_underlying A]
 simp only[binOp];simp[Op.equal,bZ,h1 9999,h2 9999]
theorem b9Z{S:World→Prop}{x y T U t u ms}(G:o.op= .binOp .neq T x y U)(M:ev e x=some (.iface t u))(N:ev e y=some .nilIface)(O:cx.P.underlying T=some (.interface ms)):BN cx o e S (.bool true):=by
 intro a w A _;have Q:=(a9m (P:=cx.P) (w:=w) (t:=t) (u:=u) O).1;have Z:eqGuard .neq T x y (.iface t u) .nilIface=pure ():=rfl;simp[execOp,G,A.eval M,A.eval N,Q,Z]
theorem b9R{S:World→Prop}{x A T U ms}(G:o.op= .binOp .neq T x (.const A) U)(M:ev e x=some .nilIface)(N:A= .nilIface)(O:cx.P.underlying T=some (.interface ms)):BN cx o e S (.bool false):=by
 intro a w Q _;subst N;have Z:=(a9m (P:=cx.P) (w:=w) (t:=0) (u:=undef) O).2.1;have hg:eqGuard .neq T x (.const .nilIface) .nilIface .nilIface=pure ():=by unfold eqGuard;simp
 have he:a.eval (.const .nilIface)= .nilIface:=rfl;simp[execOp,G,Q.eval M,he,Z,hg]
theorem a8b{S:World→Prop}{x T U v d}(A:o.op= .typeAssert x T U true)(G:ev e x=some (.iface U v))(M:cx.P.underlying U=some d)(Q:(match d with| .interface _=>false|_=>true)=true):BN cx o e S (.tuple #[v,.bool true]):=by
 intro a w N _;have O:(cO (.iface U v) T U true).run cx.P w= .ok (.tuple #[v,.bool true]) w:=by
  unfold cO;simp only[aC,run_underlying M,aB];cases d<;>simp_all
 simp[execOp,A,N.eval G,O]
end
def Rj (cx:Cx) (Q:Qt) (c:Code) (n:Nat) (e:Env) (I:Heap) (H:HL):Prop:=∀a w,Has a cx.n e cx.ds→St cx.w0 cx.D cx.I0 I H w→Code.rounds cx.P c Q n a w
section
variable {cx:Cx} {Q:Qt} {e:Env} {I:Heap} {H:HL} {o:Oper} {C:Ct} {S:World→Prop}
theorem Cj.rounds n {c}(h:Rj cx Q c n e I H)(A:cx.rd=none:=by rfl):Cj cx Q (.loop c) e I H:=Cj.of_wp A fun a w G M=>wp_loop_rounds n (h a w G M)
theorem Rj.succ{c n}(h:Cj cx (Exit.then (Code.rounds cx.P c Q n) Q) c e I H)(A:cx.rd=none:=by rfl):Rj cx Q c (n+1) e I H:=fun _ _ G M=>h.wp A G M
theorem Ej.rounds{c n}(h:Rj cx Q c n e I H):Ej cx (Exit.then (Code.rounds cx.P c Q n) Q) .normal e I H:=fun a w A G=>h a w A G
theorem JO{x y T E b off n sz off' k i}(N:o.op= .indexAddr T x y)(O:ev e x=some (ptr b off))(Q:ev e y=some (.int k i))
 (Z:cx.P.underlying T=some (.array n E))(G:∀w,(sizeOf E).run cx.P w= .ok sz w)(h0:0≤i)(h1:i<n)(A:off+i.toNat*sz=off'):BN cx o e S (ptr b off'):=by
 intro a w M _;subst A;simp[execOp,N,M.eval O,M.eval Q,Instr.indexAt,Instr.sureAddr,asIntOf,run_underlying Z,h0,h1,G,bK]
theorem a5b{P w T E n c} p (A:P.underlying T=some (.slice E)):(binOp .neq T (.slice p n c) (.slice none 0 0)).run P w= .ok (.bool p.isSome) w∧(binOp .eql T (.slice p n c) (.slice none 0 0)).run P w= .ok (.bool p.isNone) w:=by
 have h1:∀d:Nat,(aS (d+1) T (.slice p n c) (.slice none 0 0)).run P w= .ok p.isNone w:=fun d=>by cases p<;>simp[aS,run_underlying A]
 simp only[binOp];cases p<;>simp[Op.equal,bZ,h1 9999]
theorem b6N{x y T U E n c} p (G:o.op= .binOp .neq T x y U)(M:ev e x=some (.slice p n c))(N:ev e y=some (.slice none 0 0))(O:cx.P.underlying T=some (.slice E)):BN cx o e S (.bool p.isSome):=by
 intro a w A _;have Q:=(a5b (P:=cx.P) (w:=w) (n:=n) (c:=c) p O).1;have Z:eqGuard .neq T x y (.slice p n c) (.slice none 0 0)=pure ():=rfl;simp[execOp,G,A.eval M,A.eval N,Q,Z]
theorem b6q{x y T U E n c} p (G:o.op= .binOp .eql T x y U)(M:ev e x=some (.slice p n c))(N:ev e y=some (.slice none 0 0))(O:cx.P.underlying T=some (.slice E)):BN cx o e S (.bool p.isNone):=by
 intro a w A _;have Q:=(a5b (P:=cx.P) (w:=w) (n:=n) (c:=c) p O).2;have Z:eqGuard .eql T x y (.slice p n c) (.slice none 0 0)=pure ():=rfl;simp[execOp,G,A.eval M,A.eval N,Q,Z]
theorem made1 z c:madeCells #[z] c=(aZ c z).toArray:=by
 apply yT
 intro i;unfold madeCells
 by_cases h:i<c
 ·simp[h,Nat.mod_one]
 simp[h]
theorem a5p{T E d by1 n c:Nat}{x y kl M z}(ho:o.op= .makeSlice T x y)(hd:o.dst=some d)(hn:aI d cx.n=true)(hx:ev e x=some (.int kl (n:Int)))(hy:ev e y=some (.int M (c:Int)))
 (hu:cx.P.underlying T=some (.slice E))(N:(cx.P.info? E).map (fun i=>(i.bytes,i.size,i.zero))=some (by1,1,some z))(O:z.cells= #[z])(a1:n≤c)(hb:by1*c≤281474976710656)(a2:c≤9223372036854775807)
 (k:∀b,cx.w0.heap.size≤b→C ((d,.slice (some ⟨b,0,none⟩) n c)::e) I ((b,yV E (aZ c z))::H)):EZ cx Q o e I H C:=by
 intro K hK a w G Z;unfold aT;obtain⟨i,hi,A⟩:=sO.1 N;simp only[dF]at A;obtain⟨h1,h2,h3⟩:=A;have a0:(i.bytes:Int)*(c:Int)≤281474976710656:=by
  have h:((by1*c:Nat):Int)≤281474976710656:=oM;rw[h1]
  rwa [yI]at h
 have hr:=run_make (P:=cx.P) w T E i z hu hi h3 kl M n c oM oM a0 oM;have:(execOp a.eval o).run cx.P w= .ok (.value (.slice (some ⟨w.heap.size,0,none⟩) n c)) (w.alloc (yV E (aZ c z))):=by
  simp[execOp,ho,G.eval hx,G.eval hy,hr,h2,O,made1,yV]
 rw[this];simp only[aH,hd];exact hK _ _ _ (k _ Z.size) _ _ (G.put hn) (Z.alloc _)
theorem b4L{x y}{T E b off n c sz j:Nat}{kl}(N:o.op= .slice T x (some y) none none)(O:ev e x=some (.slice (some ⟨b,off,none⟩) n c))(Q:ev e y=some (.int kl (j:Int)))(Z:cx.P.underlying T=some (.slice E))(A:∀w,(sizeOf E).run cx.P w= .ok sz w)(hj:j≤n)(hc:j<c):
 BN cx o e S (.slice (some ⟨b,off+j*sz,none⟩) (n-j) (c-j)):=by
 intro a w G _;have M:¬c=j:=oM;have h1:(j:Int)≤n:=oM;simp[execOp,N,G.eval O,G.eval Q,Instr.sliceAt,Instr.slice,run_underlying Z,Instr.sliceBounds,run_sliceBound,h1,A,M,bK]
theorem c8r{x y T U E d b off n c m Z} i {cs cs' ys H'}(ho:o.op= .call ⟨.builtin .copy,#[x,y],#[T,U]⟩)(hd:o.dst=some d)(hn:aI d cx.n=true)(hx:ev e x=some (.slice (some ⟨b,off,none⟩) n c))(hy:ev e y=some Z)
 (M:cx.P.underlying T=some (.slice E))(a0:∀w,(sizeOf E).run cx.P w= .ok 1 w)(a1:Src cx.P I H 1 m Z ys)(a2:m≤n)(hH:H[i]?=some (b,yV E cs))(G:AX cs off ys cs')(a3:BL H i (b,yV E cs') H')
 (k:C ((d,i64 m)::e) I H'):EZ cx Q o e I H C:=by
 intro K hK a w N A;unfold aT;obtain⟨_,a4,a5,a6⟩:=a1;have hb:=A.own _ (vS hH);have a7:=MP (P:=cx.P) (t:=E) ys 0 w cs hb (.inl rfl) G.1 (fun u M=>(yG.1 a4) u M) cs' G;have O:Nat.min m n=m:=sW a2;have:(execOp a.eval o).run cx.P w= .ok (.value (i64 m)) (aF w b (yV E cs')):=by
  simp[execOp,ho,resolve,invoke,builtin,N.eval hx,N.eval hy,Builtin.copy_,run_underlying M,a5 w A.ss,O,a0,a6 w A.ss,a7,goInt,yV]
 rw[this];simp only[aH,hd];exact hK _ _ _ k _ _ (N.put hn) (A.block hH a3)
theorem c3F{H1 R d f T te fo nm xs ts vs q}{M:Ending→Heap→HL→Prop}
 (ho:o.op= .call ⟨.invoke fo nm,xs.toArray,ts⟩)(hd:o.dst=some d)(hn:aI d cx.n=true)(hf:ev e fo=some (.iface T (.pointer q)))(hx:evs e xs=some vs)
 (hm:((cx.P.info? T).bind fun i=>i.methods.find? (·.name == nm)).map (fun m=>(m.path.isEmpty,m.func))=some (true,some (f,true)))(hu:cx.P.underlying T=some (.pointer te))
 (hs:yY cx.P f (.pointer q::vs) I H1 M)
 (k:∀v G A,Le I G→M (.returned v) G A→C ((d,v)::e) G (A++R))
 (kp:∀ch G A,Le I G→M (.panicked ch) G A→Ej cx Q (.panic ch) e G (A++R))
 (ko:∀G A,¬M .outgrown G A):EZ cx Q o e I (H1++R) C:=by
 intro K hK a w ha O;unfold aT;have hr:(execOp a.eval o).run cx.P w= .ok (.enter f (.pointer q::vs).toArray) w:=by
  have a6:xs.toArray.map a.eval=vs.toArray:=by rw[bC,ha.a0a hx]
  obtain⟨m,a7,a3⟩:=sO.1 hm;obtain⟨i,hi,a8⟩:=Option.bind_eq_some_iff.1 a7;simp only[dF]at a3;obtain⟨N,a9⟩:=a3;have aa:m.path.toList=[]:=by
   have:m.path= #[]:=by simpa using N
   rw[this]
  have a1:=MX hs.1 (.pointer q::vs).toArray w;have a2:∀n:Nat,(method (n+1) T (.pointer q) nm).run cx.P w= .ok (f,.pointer q) w:=fun n=>by
   simp[method,typeInfo,hi,a8,aa,follow,a9,receiverAt,run_underlying hu,Place.get]
  have ab:∀n:Nat,(method (n+Made.depth) T (.pointer q) nm).run cx.P w= .ok (f,.pointer q) w:=fun n=>a2 (n+(Made.depth-1));simp only[execOp,ho,resolve,a6,ha.eval hf,invoke,aC,aJ,aB,callMethod];simp[ab,a1]
 rw[hr];simp only[aH];have Z:Ready I H1 w:=⟨O.sub,fun p N=>O.own p (vZ _ N),by
  have:=O.nodup;rw[wG,vK]at this;exact this.1,fun p N=>O.dis p (vZ _ N)⟩
 refine(hs.2 w Z).mono ?_;rintro en w' ⟨G,A,a4,N⟩;have a5:=a4.le;have a0:=O.call a4;cases en with
 |returned v=>
  rw[hd];exact hK _ _ _ (k v G A a5 N) _ _ (ha.put hn) a0
 |panicked ch=>exact kp ch G A a5 N _ _ ha a0
 |outgrown=>exact(ko _ _ N).elim
end
theorem St.set1{w I b T off cs v}(A:Ready I [(b,yV T cs)] w):St w [b] I I [(b,yV T (cs.set off v))] (w.setCell ⟨b,off,none⟩ v):=by
 have M:w.heap[b]?=some (yV T cs):=A.2.1 (b,yV T cs) (.head _);have G:St w [b] I I [(b,yV T cs)] w:=bI w I [(b,yV T cs)] A.1 A.2.1 A.2.2.1 A.2.2.2;rw[a4E (fr:=(0,0)) M];exact G.block (i:=0) rfl bT
theorem yY.a8A{P f args I b T off cs x y v}(G:Enters P f)(M:cs[off]?=some x)
 (h:∀w,w.cell? ⟨b,off,none⟩=some x→w.frozen? ⟨b,off,none⟩=false→Calls P f args.toArray w fun e w'=>e= .returned v∧w'=w.setCell ⟨b,off,none⟩ y):
 yY P f args I [(b,yV T cs)] (fun e N H'=>e= .returned v∧H'=[(b,yV T (cs.set off y))]):=
 ⟨G,fun w A=>(h w (cell_of_heap (A.2.1 _ (.head _)) M) (by have:=A.2.1 _ (.head _);simp only at this;simp[dG,this,yV])).mono fun e w' ⟨h1,h2⟩=>⟨I,_,h2▸St.set1 A,h1,rfl⟩⟩
theorem yY.c9E{P f args I b T off cs x v}(G:Enters P f)(M:cs[off]?=some x)
 (h:∀w,w.cell? ⟨b,off,none⟩=some x→Calls P f args.toArray w fun e w'=>e= .returned v∧w'=w):
 yY P f args I [(b,yV T cs)] (fun e N H'=>e= .returned v∧H'=[(b,yV T cs)]):=
 ⟨G,fun w A=>(h w (cell_of_heap (A.2.1 _ (.head _)) M)).mono fun _ _ ⟨h1,h2⟩=>⟨I,_,h2▸bI w I _ A.1 A.2.1 A.2.2.1 A.2.2.2,h1,rfl⟩⟩
theorem VQ.a8A{P f args u I b T off cs x y v}(N:Enters P f)(O:cs[off]?=some x)
 (h:∀w,w.cell? ⟨b,off,none⟩=some x→w.frozen? ⟨b,off,none⟩=false→CallsD P f args.toArray u w fun e A w'=>A=u∧(e= .returned v∧(w'=w.setCell ⟨b,off,none⟩ y∨w'=w.drew.setCell ⟨b,off,none⟩ y))):
 VQ P f args u I [(b,yV T cs)] (fun A Q H'=>A=u∧H'=[(b,yV T (cs.set off y))]):=
 ⟨N,fun w G=>(h w (cell_of_heap (G.2.1 _ (.head _)) O) (by have:=G.2.1 _ (.head _);simp only at this;simp[dG,this,yV])).mono fun e A w' ⟨h0,h1,h2⟩=>⟨⟨v,h1⟩,I,_,by
  have M:=St.set1 (off:=off) (v:=y) G;rcases h2 with h2|h2
  ·rw[h2];exact M
  rw[h2];exact M.drew,h0,rfl⟩⟩
def tab (f:Nat→Value) (tr:Value):List Value:=(List.range 256).map f++[tr]
theorem PL f tr:(tab f tr).length=257:=by simp[tab]
theorem SV f tr {i}(h:i<256):(tab f tr)[i]?=some (f i):=by
 unfold tab;rw[xJ (by simpa using h)];simp[h]
theorem a9H f tr:(tab f tr)[256]?=some tr:=by
 unfold tab;rw[xI sI];simp
theorem c7Y f tr v {i}(h:i<256):(tab f tr).set i v=tab (fun j=>if j=i then v else f j) tr:=by
 apply List.ext_getElem?
 intro j;rw[xA];rcases tC j 256 with G|G
 ·rw[SV _ _ G,SV _ _ G]
  by_cases A:i=j
  ·subst A;simp[PL];omega
  have:¬j=i:=fun M=>A M.symm;simp[A,this]
 have A:¬i=j:=oM;simp only[A,if_false];unfold tab;rw[xI (by simpa using G),xI (by simpa using G)];simp
theorem c1I f tr v:(tab f tr).set 256 v=tab f v:=by
 unfold tab;rw[uO _ _ sI];simp
theorem c8t{f tr}(A:∀i,(f i).oneCell'=true)(G:tr.oneCell'=true):(tab f tr).all dB=true:=by
 unfold tab;simp[A,G]
theorem c8y f a v:AX (tab f a) 256 [v] (tab f v):=by
 refine⟨by simp[PL],?_⟩;unfold tab;rw[tZ sI,tX sI,xX sI];simp
theorem AX.all{l xs:List Value}(h:l.length=xs.length):AX l 0 xs xs:=⟨by simp[h],by simp[←h]⟩
theorem b1Y n g:(gV n g).cells= #[gV n g]:=by cases g<;>rfl
theorem b7v n g:(gV n g).oneCell'=true:=by cases g<;>rfl
def a6C (I:Heap) (l:List UInt8) (v:Value):Prop:=∃b c sp fr,v= .slice (some ⟨b,0,none⟩) l.length c∧I b=some (.cells (DJ l++sp).toArray 5 fr)
theorem a6C.mono{I A l v}(h:a6C I l v)(G:Le I A):a6C A l v:=let ⟨b,c,sp,fr,h1,h2⟩:=h;⟨b,c,sp,fr,h1,G _ _ h2⟩
section
variable {cx:Cx} {Q:Qt} {e:Env} {I:Heap} {H:HL}
theorem Ej.d0P{fn}{A:Ending→Heap→HL→Prop}{H1 H2 H3 R1 f1 f2 M Q N Z}(a1:cx.ds=[⟨.fn (.func f1) M.toArray,Q.toArray⟩,⟨.fn (.func f2) N.toArray,Z.toArray⟩])
 (h1:VQ cx.P f1 (Q++M) .returning I H1 fun O a7 H'=>O= .returning∧H'=H2)(h2:∀G,VQ cx.P f2 (Z++N) .returning G H2 fun O a6 H'=>O= .returning∧H'=H3)
 (k:∀G,Le I G→a5v cx fn A e G (H3++R1)):Ej cx (bodyPostD cx.P fn (RR cx.w0 cx.D cx.I0 A)) .normal e I (H1++R1):=by
 intro a w ha a2;show Leaves cx.P fn a.tmps (RR cx.w0 cx.D cx.I0 A) a.defers .returning w;rw[ha.defs,a1];refine a3k sI h1 a2 ?_;rintro O G _ w' a3 ⟨rfl,rfl⟩ a4;refine a3k (by simp[]) (h2 G) a4 ?_;rintro _ I2 _ w2 a0 ⟨rfl,rfl⟩ a5;exact k I2 (a3.trans a0) a w2 ha a5
theorem a5v.none{fn}{A:Ending→Heap→HL→Prop}(G:fn.results= #[])(M:A (.returned (.tuple #[])) I H):a5v cx fn A e I H:=
 fun _ _ _ N=>⟨.tuple #[],results_none G _ _ _,I,H,N,M⟩
end
end Go.Sx
namespace Go.Proofs.YtalapkjmkjmpjaaGreatDoor.Sync
open _root_.Go.Proofs.Tryz
open Go Go.Sx
theorem disable w:(callFunc 383 #[]).run aK w= .ok (.value (.tuple #[])) w:=run_call_mark0 func383 kR kR kR .disable kR w
theorem enable w:(callFunc 385 #[]).run aK w= .ok (.value (.tuple #[])) w:=run_call_mark0 func385 kR kR kR .enable kR w
theorem acquire a w:(callFunc 386 #[.pointer (some a)]).run aK w= .ok (.value (.tuple #[])) w:=run_call_marked func386 kR kR kR .acquire kR a w
theorem releaseMerge a w:(callFunc 388 #[.pointer (some a)]).run aK w= .ok (.value (.tuple #[])) w:=run_call_marked func388 kR kR kR .releaseMerge kR a w
theorem store_deferred a x u w (O:w.cell? a=some x)(Q:w.frozen? a=false):
 CallsD aK 356 #[.pointer (some a),.bool true] u w fun e M w'=>M=u∧(e= .returned (.tuple #[])∧w'=w.drew.setCell a (.int .u32 1)):=by
 have A:w.drew.cell? a=some x:=by go_simp
 have G:w.drew.frozen? a=false:=by go_simp
 have N:=run_call_store (P:=aK) func375 kR kR kR kR (k:= .u32) (y:=1) A G
 go_enter_d func356,Tryz.ntmps356
 go_wp2
 go_region_calls
 all_goals (go_end0;exact rT)
theorem unlock_deferred a u w (A:w.cell? a=some (.int .i32 1))(G:w.frozen? a=false):
 CallsD aK 355 #[.pointer (some a)] u w fun e M w'=>M=u∧(e= .returned (.tuple #[])∧w'=w.setCell a (.int .i32 0)):=by
 have Q:=disable;have Z:=enable;have hr:=releaseMerge;have N:=run_call_add (P:=aK) func389 kR kR kR .i32 kR (y:= -1) (s:=0) A G (by simp[go_sem];rfl);have O:=run_convert_to_unsafe (P:=aK) (src:=456) (dst:=386) underlying456 b3m kR A
 go_enter_d func355,Tryz.ntmps355
 go_wp2
 go_end0
 go_wp2
 go_end0
 exact rT
theorem lock_free a w (A:w.cell? a=some (.int .i32 0))(M:w.frozen? a=false):
 Calls aK 354 #[.pointer (some a)] w fun e w'=>e= .returned (.tuple #[])∧w'=w.setCell a (.int .i32 1):=by
 have Q:=disable;have Z:=enable;have ha:=acquire;have N:=run_call_cas_hit (P:=aK) func384 kR kR kR .i32 kR (y:=1) A M;have G:(w.setCell a (.int .i32 1)).cell? a=some (.int .i32 1):=World.cell?_setCell_same w a _ A;have O:=run_convert_to_unsafe (P:=aK) (src:=456) (dst:=386) underlying456 b3m kR G
 go_enter func354,Tryz.ntmps354
 go_wp2
 first|go_end0|(simp only[Exit.inBlock,Exit.then];refine bodyPost_ret (results_none rfl _ _ _) rfl ?_)|refine bodyPost_ret (results_none rfl _ _ _) rfl ?_
 go_wp2
 go_end0
 exact rT
theorem c0R a x w (A:w.cell? a=some (.int .u32 x)):
 Calls aK 315 #[.pointer (some a)] w fun e w'=>e= .returned (.bool (x != 0))∧w'=w:=by
 have G:=run_call_load (P:=aK) func353 kR kR kR .u32 kR A
 go_enter func315,Tryz.ntmps315
 go_wp2
 go_ret
 exact rT
end Go.Proofs.YtalapkjmkjmpjaaGreatDoor.Sync
namespace Go.Sx
open Go
def YC (P:Program) (l:Nat) (args:List Value) (I:Heap) (H:HL) (post:Ending→Heap→HL→Prop):Prop:=
 ∀w,Ready I H w→∃f tmps assign body,(Instr.yield l args.toArray).run P w= .ok (.round l f tmps assign body) w∧RoundIn aV 0 P l f tmps assign body w (RR w (H.map (·.1)) I post)
theorem b6i{rd n P l f tmps assign body w}{R:Ending→World→Prop}(h:RoundIn aV n P l f tmps assign body w R):RoundIn { aV with round:=rd } n P l f tmps assign body w R:=by
 cases rd with
 |none=>exact h
 |some l=>exact h
section
variable {cx:Cx} {Q:Qt} {o:Oper} {e:Env} {I:Heap}
theorem b5p{H1 R d l fo xs ts vs}{M:Ending→Heap→HL→Prop}{K:Act→World→Prop}
 (ho:o.op= .call ⟨.value fo,xs.toArray,ts⟩)(hd:o.dst=some d)(hn:aI d cx.n=true)(hf:ev e fo=some (.func (.yield l) #[] #[]))(hx:evs e xs=some vs)(hs:YC cx.P l vs I H1 M)
 (k:∀v N A,Le I N→M (.returned v) N A→∀a w,Has a cx.n ((d,v)::e) cx.ds→St cx.w0 cx.D cx.I0 N (R++A) w→K a w)
 (kp:∀ch N A,¬M (.panicked ch) N A)(ko:∀N A,¬M .outgrown N A){a w}(ha:Has a cx.n e cx.ds)(G:St cx.w0 cx.D cx.I0 I (R++H1) w):o.wpIn cx.F 0 cx.P a w K Q:=by
 replace G:=G.perm (H':=H1++R) uQ;have Z:Ready I H1 w:=⟨G.sub,fun p O=>G.own p (vZ _ O),by
  have:=G.nodup;rw[wG,vK]at this;exact this.1,fun p O=>G.dis p (vZ _ O)⟩
 obtain⟨f,tmps,assign,body,h1,h2⟩:=hs w Z;have hr:(execOp a.eval o).run cx.P w= .ok (.round l f tmps assign body) w:=by
  have a2:xs.toArray.map a.eval=vs.toArray:=by
   rw[bC,ha.a0a hx]
  simp only[execOp,ho,resolve,a2,ha.eval hf,aW,invoke,aC,aJ,aB,Array.empty_append,h1]
 refine⟨fun _ _=>trivial,?_⟩;have he:o.semAt cx.F.round a.eval=execOp a.eval o:=Oper.semAt_eq _ _ _ (fun c hc=>by rw[ho]at hc;cases hc);rw[he,hr];refine⟨fun h=>by simp[Cx.F,aV]at h,?_⟩;refine RoundIn.mono (b6i (rd:=cx.rd) h2) ?_;rintro en w' ⟨N,A,a0,O⟩;have a3:=a0.le;have a1:=(G.call a0).perm (H':=R++A) uQ;cases en with
 |returned v=>
  rw[hd];exact k v N A a3 O _ _ (ha.put hn) a1
 |panicked ch=>exact(kp _ _ _ O).elim
 |outgrown=>exact(ko _ _ O).elim
theorem J.yield{O r H1} R {d l fo xs ts vs}{G:Ending→Heap→HL→Prop}
 (hg:o.guard=none)(ho:o.op= .call ⟨.value fo,xs.toArray,ts⟩)(hd:o.dst=some d)(hn:aI d cx.n=true)(hf:ev e fo=some (.func (.yield l) #[] #[]))(hx:evs e xs=some vs)(hs:YC cx.P l vs I H1 G)
 (k:∀v M A,Le I M→G (.returned v) M A→J cx Q O r ((d,v)::e) M (R++A))
 (kp:∀ch M A,¬G (.panicked ch) M A)(ko:∀M A,¬G .outgrown M A):J cx Q O (o::r) e I (R++H1):=
 fun _ _ Z N=>wpListIn_plain hg fun _ hK=>b5p ho hd hn hf hx hs (fun v M A a0 hp a w Z N=>hK a w (k v M A a0 hp a w Z N)) kp ko Z N
theorem J.d0j{N r H1} R {d l fo xs ts vs}{G:Ending→Heap→HL→Prop} j dj O b
 (hg:o.guard=some (j,O))(a0:(N[j]?).bind (·.dst)=some dj)(hv:eg e dj=some (.bool b))(hb:b=O)(ho:o.op= .call ⟨.value fo,xs.toArray,ts⟩)(hd:o.dst=some d)(hn:aI d cx.n=true)(hf:ev e fo=some (.func (.yield l) #[] #[]))(hx:evs e xs=some vs)(hs:YC cx.P l vs I H1 G)
 (k:∀v M A,Le I M→G (.returned v) M A→J cx Q N r ((d,v)::e) M (R++A))
 (kp:∀ch M A,¬G (.panicked ch) M A)(ko:∀M A,¬G .outgrown M A):J cx Q N (o::r) e I (R++H1):=by
 intro a w ha Z;refine wpListIn_step fun K hK=>?_;rw[zF (by simp[bU,hg,UD ha a0 hv,hb])];exact b5p ho hd hn hf hx hs (fun v M A a1 hp a w ha Z=>hK a w (k v M A a1 hp a w ha Z)) kp ko ha Z
end
def YS (P:Program) (l:Nat) (xs:List (List Value)) (Y:Nat→Heap→HL→Prop) (Z:Heap→HL→Prop):Prop:=
 ∀k args,xs[k]?=some args→∀I H,Y k I H→YC P l args I H (fun e I' H'=>(e= .returned (.bool true)∧Y (k+1) I' H')∨(e= .returned (.bool false)∧Z I' H'))
def Gen (P:Program) (f:FuncId) (fst cap:List Value) (I:Heap) (xs:List (List Value)):Prop:=
 Enters P f∧∀(l:Nat) (Y:Nat→Heap→HL→Prop) (Z:Heap→HL→Prop),(∀k I1 I2 H,Le I1 I2→Y k I1 H→Y k I2 H)→YS P l xs Y Z→
  ∀H,Y 0 I H→yY P f (fst++[.func (.yield l) #[] #[]]++cap) I H (fun e I' H'=>e= .returned (.tuple #[])∧(Y xs.length I' H'∨Z I' H'))
def a9f:List Tmp→List Value→Env→Env
 |t::ps,v::vs,e=>a9f ps vs ((t,v)::e)
 |_,_,e=>e
theorem Has.zip{n}:∀(ps:List Tmp) (vs:List Value) (e:Env) (tmps:Array Value),(∀t∈ps,aI t n=true)→Has ⟨tmps,[]⟩ n e []→Has ⟨(ps.zip vs).foldl (fun tmps (x:Tmp×Value)=>tmps.setIfInBounds x.1 x.2) tmps,[]⟩ n (a9f ps vs e) []
 |[],_,_,_,_,h=>h
 |_::_,[],_,_,_,h=>h
 |t::ps,_v::vs,_e,tmps,hn,h=>Has.zip ps vs _ _ (fun u A=>hn u (.tail _ A)) (Has.put (a:=⟨tmps,[]⟩) h (hn t (.head _)))
def c7d (cx:Cx) (l:Nat) (r:Loop) (body:Code) (Q:Qt):Qt
 | .normal,a,w=>∃e I H,Has a cx.n e cx.ds∧St cx.w0 cx.D cx.I0 I ((l,.loop r)::H) w∧Cj cx Q body e I ((l,.loop { r with state:= .busy })::H)
 |_,_,_=>False
def RdQ (cx:Cx) (l:Nat) (r:Loop) (Y:Heap→HL→Prop) (Z:Code→Heap→HL→Prop):Qt
 | .normal,_,w=>∃I H,St cx.w0 cx.D cx.I0 I ((l,.loop { r with state:= .busy })::H) w∧Y I H
 | .ret,_,w=>∃I H,St cx.w0 cx.D cx.I0 I ((l,.loop { r with state:= .busy })::H) w∧Z .ret I H
 | .exit id,_,w=>∃I H,St cx.w0 cx.D cx.I0 I ((l,.loop { r with state:= .busy })::H) w∧Z (.exit id) I H
 |_,_,_=>False
section
variable {cx:Cx} {Q:Qt} {e:Env} {I:Heap} {H:HL} {l:Nat} {r:Loop} {Y:Heap→HL→Prop} {Z:Code→Heap→HL→Prop}
theorem Ej.asg{body}(k:Cj cx Q body e I ((l,.loop { r with state:= .busy })::H)):Ej cx (c7d cx l r body Q) .normal e I ((l,.loop r)::H):=
 fun _ _ A G=>⟨e,I,H,A,G,k⟩
theorem Ej.a3z(h:Y I H):Ej cx (RdQ cx l r Y Z) .normal e I ((l,.loop { r with state:= .busy })::H):=fun _ _ _ A=>⟨I,H,A,h⟩
theorem Ej.d0p{id}(h:Z (.exit id) I H):Ej cx (RdQ cx l r Y Z) (.exit id) e I ((l,.loop { r with state:= .busy })::H):=fun _ _ _ A=>⟨I,H,A,h⟩
abbrev NJ (b:Nat):Deferred:={ target:= .collected b,args:= #[] }
theorem Cj.rangeFunc{g ps assign body f a4 a5 H1 R} xs (Y:Nat→Heap→HL→Prop)(Z:Code→Heap→HL→Prop)
 (hr:cx.rd=none)(ah:∀t∈ps,Nat.blt t cx.n=true)(ae:∀args∈xs,args.length=ps.length)(hg:ev e g=some (.func (.func f) a4.toArray a5.toArray))(a8:Gen cx.P f a4 a5 I xs)
 (ab:∀k M I2 H,Le M I2→Y k M H→Y k I2 H)(h0:Y 0 I H1)
 (round:∀l r k args M G w0,xs[k]?=some args→Le I M→Y k M G→
  Cj ⟨cx.P,cx.n,w0,l::G.map (·.1),M,[],some l⟩ (c7d ⟨cx.P,cx.n,w0,l::G.map (·.1),M,[],some l⟩ l r body (RdQ ⟨cx.P,cx.n,w0,l::G.map (·.1),M,[],some l⟩ l r (Y (k+1)) Z)) assign (a9f ps args e) M ((l,.loop r)::G))
 (done:∀b I' H',Le I I'→Y xs.length I' H'→Ej { cx with ds:=NJ b::cx.ds } Q .normal e I' ((b,.deferred (some []))::(H'++R)))
 (left:∀b c I' H',Le I I'→Z c I' H'→Cj { cx with ds:=NJ b::cx.ds } Q c e I' ((b,.deferred (some []))::(H'++R))):
 Cj cx Q (.rangeFunc g ps.toArray assign body) e I (H1++R):=by
 intro a w ha ai;rw[Cx.wide hr];refine wpIn_rangeFunc fun fn _=>?_;obtain⟨r,N⟩:∃r:Loop,r={ state:= .ready,pending:=none,fn:=fn,tmps:=a.tmps,params:=ps.toArray,assign:=assign,body:=body,defers:=w.heap.size }:=⟨_,rfl⟩;obtain⟨l,hl⟩:∃l,l=w.heap.size+1:=⟨_,rfl⟩;have a1:St cx.w0 cx.D cx.I0 I (((l,.loop r)::H1)++((w.heap.size,.deferred (some []))::R)) ((w.alloc (.deferred (some []))).alloc (.loop r)):=by
  have h1:=(ai.alloc (.deferred (some []))).alloc (.loop r);have h2:(w.heap.push (.deferred (some []))).size=l:=by rw[hl,Array.size_push]
  rw[h2]at h1;refine h1.perm ?_;show((l,Obj.loop r)::(H1++(w.heap.size,Obj.deferred (some []))::R)).Perm _;exact List.Perm.cons _ uP
 let Y':Nat→Heap→HL→Prop:=fun k M H=>Le I M∧∃G,H=(l,.loop r)::G∧Y k M G
 let Z':Heap→HL→Prop:=fun M H=>∃c G,H=(l,.loop { r with state:= .done,pending:=some c })::G∧Z c M G
 have aj:YS cx.P l xs Y' Z':=by
  rintro k args hk M H ⟨a0,G,rfl,hY⟩ w1 A;have al:w1.heap[l]?=some (.loop r):=A.2.1 _ (.head _);have am:=ae args (vS hk);refine⟨r.fn,_,r.assign,r.body,run_yield al (by rw[N];simp[am]),roundIn_of_wpIn trivial ?_⟩;have hz:(r.params.zip args.toArray).foldl (fun tmps (x:Tmp×Value)=>tmps.setIfInBounds x.1 x.2) r.tmps=(ps.zip args).foldl (fun tmps (x:Tmp×Value)=>tmps.setIfInBounds x.1 x.2) a.tmps:=by
   rw[N];simp[List.zip_toArray]
  have a9:=Has.zip (n:=cx.n) ps args e a.tmps ah ⟨ha.size,rfl,ha.get⟩;rw[←hz]at a9;have hc:=round l r k args M G w1 hk a0 hY _ _ a9 (bI w1 M ((l,.loop r)::G) A.1 A.2.1 A.2.2.1 A.2.2.2);have e1:r.assign=assign:=by rw[N]
  have e2:r.body=body:=by rw[N]
  rw[e1,e2];refine wpIn_mono hc ?_;rintro x a2 _ hq;cases x with
  |normal=>
   obtain⟨e2,I2,_,a6,ac,hb⟩:=hq;refine⟨_,run_beginRound (ac.own _ (.head _)) (by rw[N]),?_⟩;have an:=ac.block (i:=0) (o':= .loop { r with state:= .busy }) rfl bT;refine wpIn_mono (hb a2 _ a6 an) ?_;rintro x _ _ hq3;cases x with
   |normal=>
    obtain⟨I3,H3,O,ao⟩:=hq3;refine⟨_,_,run_endRound none (O.own _ (.head _)),I3,(l,.loop r)::H3,?_,.inl ⟨rfl,a0.trans O.le,H3,rfl,ao⟩⟩;have:=O.block (i:=0) (o':= .loop r) rfl bT;rw[N]at this ⊢;exact this
   |ret=>
    obtain⟨I3,H3,O,aa⟩:=hq3;exact⟨_,_,run_endRound (some .ret) (O.own _ (.head _)),I3,_,O.block (i:=0) rfl bT,.inr ⟨rfl,_,H3,rfl,aa⟩⟩
   |exit id=>
    obtain⟨I3,H3,O,aa⟩:=hq3;exact⟨_,_,run_endRound (some (.exit id)) (O.own _ (.head _)),I3,_,O.block (i:=0) rfl bT,.inr ⟨rfl,_,H3,rfl,aa⟩⟩
   |goto t=>exact hq3.elim
   |panic ch=>exact hq3.elim
   |outgrown=>exact hq3.elim
  |exit id=>exact hq.elim
  |goto t=>exact hq.elim
  |ret=>exact hq.elim
  |panic ch=>exact hq.elim
  |outgrown=>exact hq.elim
 have af:=a8.2 l Y' Z' (fun k M I2 H a0 ⟨h1,G,h2,h3⟩=>⟨h1.trans a0,G,h2,ab _ _ _ _ a0 h3⟩) aj ((l,.loop r)::H1) ⟨Le.refl _,H1,rfl,h0⟩;have A:Ready I ((l,.loop r)::H1) ((w.alloc (.deferred (some []))).alloc (.loop r)):=⟨a1.sub,fun p hp=>a1.own p (vZ _ hp),by
  have:=a1.nodup;rw[wG,vK]at this;exact this.1,fun p hp=>a1.dis p (vZ _ hp)⟩
 have ag:(Instr.enterLoop fn a.tmps ps.toArray assign body none).run cx.P w= .ok (l,[NJ w.heap.size]) ((w.alloc (.deferred (some []))).alloc (.loop r)):=by
  rw[hl,N];exact run_enterLoop_outer fn a.tmps ps.toArray assign body
 refine⟨l,[NJ w.heap.size],(w.alloc (.deferred (some []))).alloc (.loop r),⟨.fn (.func f) a5.toArray,(a4++[dA (.yield l) #[] #[]]).toArray⟩,(w.alloc (.deferred (some []))).alloc (.loop r),f,(a4++[dA (.yield l) #[] #[]]++a5).toArray,(w.alloc (.deferred (some []))).alloc (.loop r),ag,?_,fun _ _=>trivial,?_,fun h=>by simp[aV]at h,callsIn_wide.2 ?_⟩
 ·have he:a.eval (.const (.func (.yield l) #[] #[]))= .func (.yield l) #[] #[]:=rfl;simp[resolve,ha.eval hg,aW,he]
 ·have h:=MX a8.1 (a4++[dA (.yield l) #[] #[]]++a5).toArray ((w.alloc (.deferred (some []))).alloc (.loop r));simpa[invoke]using h
 refine(af.2 _ A).mono ?_;rintro _ w' ⟨I',H',ad,rfl,ap⟩;have a3:=a1.call ad;have a0:=ad.le;have a6:Has { a with defers:=[NJ w.heap.size]++a.defers } cx.n e (NJ w.heap.size::cx.ds):=⟨ha.size,by simp[ha.defs],ha.get⟩;rcases ap with⟨_,G,rfl,hY⟩|⟨c,G,rfl,hZ⟩
 ·refine⟨_,_,run_endLoop (a3.own _ (.head _)) (by rw[N];simp),?_⟩;have a7:=((a3.block (i:=0) (o':= .loop { r with state:= .exhausted }) rfl bT).sublist (uJ _ _)).perm (H':=(w.heap.size,.deferred (some []))::(G++R)) uP.symm;have hp:r.pending=none:=by rw[N]
  rw[hp]at a7 ⊢;exact done w.heap.size I' G a0 hY _ _ a6 a7
 refine⟨_,_,run_endLoop (a3.own _ (.head _)) sI,?_⟩;have a7:=((a3.block (i:=0) (o':= .loop { { r with state:= .done,pending:=some c }with state:= .exhausted }) rfl bT).sublist (uJ _ _)).perm (H':=(w.heap.size,.deferred (some []))::(G++R)) uP.symm;have hw:=left w.heap.size c I' G a0 hZ _ _ a6 a7;have hF:({ cx with ds:=NJ w.heap.size::cx.ds }:Cx).F=aV:=Cx.wide hr;rw[hF]at hw;exact hw
end
theorem a2L{t n}(h:aI t n=true):∀u∈[t],aI u n=true:=fun u A=>by simp at A;subst A;exact h
theorem c7I{t u n}(h:aI t n=true)(h2:aI u n=true):∀x∈[t,u],aI x n=true:=fun x A=>by
 simp at A;rcases A with rfl|rfl
 ·exact h
 exact h2
theorem seq1{α:Type}(l:List α)(f:α→Value):∀args∈l.map (fun x=>[f x]),args.length=1:=fun args h=>by
 obtain⟨x,_,rfl⟩:=vU.1 h;rfl
theorem b0p{α:Type}{l:List α}{f:α→Value}{k:Nat}{args}(h:(l.map (fun x=>[f x]))[k]?=some args):∃x,l[k]?=some x∧args=[f x]:=by
 rw[xB]at h;cases hl:l[k]? with
 |none=>rw[hl]at h;cases h
 |some x=>rw[hl]at h;cases h;exact⟨x,rfl,rfl⟩
theorem Cj.a6e{A Q c e I H}(M:A.D=[])(k:(∀p∈H,A.w0.heap.size≤p.1)→Cj A Q c e I H):Cj A Q c e I H:=fun a w N G=>k (fun p O=>by
 have:=G.new p O;rw[M]at this;exact this.resolve_left sI) a w N G
theorem J.a6e{A Q G r e I H}(N:A.D=[])(k:(∀p∈H,A.w0.heap.size≤p.1)→J A Q G r e I H):J A Q G r e I H:=fun a w O M=>k (fun p Z=>by
 have:=M.new p Z;rw[N]at this;exact this.resolve_left sI) a w O M
theorem AL.base{G A sz n xs g T}(h:AL G sz n xs g)(M:∀p∈gH T xs g,A≤p.1):AL A sz n xs g:=by
 cases g with
 |none=>exact h
 |some q=>exact⟨M _ (.head _),h.2⟩
theorem yY.YZ{P f fn c args I H}{A:Ending→Heap→HL→Prop}(N:P.funcs[f]?=some fn)(O:fn.body=some c)(M:fn.name≠ "runtime.NumGoroutine")
 (Q:args.length≤fn.ntmps)
 (h:∀w0,Ready I H w0→Cj ⟨P,fn.ntmps,w0,H.map (·.1),I,[],none⟩ (bodyPostM aV 0 P fn (RR w0 (H.map (·.1)) I A)) c (PE 0 args) I H):yY P f args I H A:=by
 refine⟨⟨fn,N,M,by simp[O]⟩,fun w G=>?_⟩;refine(callsIn_wide (n:=0)).1 (callsIn_of_wp_marks N O trivial ?_);exact h w G _ _ (dD args fn.ntmps Q) (bI w I H G.1 G.2.1 G.2.2.1 G.2.2.2)
def PD (cx:Cx) (fn:Func) (post:Ending→Heap→HL→Prop) (ds:List Deferred) (e:Env) (I:Heap) (H:HL):Prop:=
 ∀a w,Has a cx.n e cx.ds→St cx.w0 cx.D cx.I0 I H w→LeavesInM aV 0 cx.P fn a.tmps (RR cx.w0 cx.D cx.I0 post) ds .returning w
section
variable {cx:Cx} {fn:Func} {post:Ending→Heap→HL→Prop} {e:Env} {I:Heap} {H H':HL} {ds:List Deferred}
theorem Ej.a2R{x}(G:x= .ret∨x= .normal)(h:PD cx fn post cx.ds e I H):Ej cx (bodyPostM aV 0 cx.P fn (RR cx.w0 cx.D cx.I0 post)) x e I H:=by
 intro a w A M;have:=h a w A M;rw[←A.defs]at this;rcases G with rfl|rfl
 ·exact this
 exact this
theorem PD.mark{b} i (A:H[i]?=some (b,.deferred (some [])))(G:BL H i (b,.deferred none) H')(h:PD cx fn post ds e I H'):PD cx fn post (NJ b::ds) e I H:=
 fun a _ N M=>⟨sI,.inl ⟨b,_,rfl,run_takeDeferred (M.own _ (vS A)),h a _ N (M.block A G)⟩⟩
theorem PD.keep(A:Keeps H' H)(h:PD cx fn post ds e I H'):PD cx fn post ds e I H:=fun a w G M=>h a w G (M.sublist A)
theorem PD.YI{t v}(A:fn.results= #[.tmp t])(G:eg e t=some v)(M:post (.returned v) I H):PD cx fn post [] e I H:=by
 intro a w N O;refine⟨v,?_,I,H,O,M⟩;rw[results_tmp A];have:=N.get t v G;simp[this]
theorem PD.b8O{t u v x}(G:fn.results= #[.tmp t,.tmp u])(M:eg e t=some v)(N:eg e u=some x)(O:post (.returned (.tuple #[v,x])) I H):PD cx fn post [] e I H:=by
 intro a w A Q;refine⟨_,?_,I,H,Q,O⟩;rw[results_tmp2 G];have h1:=A.get t v M;have h2:=A.get u x N;simp[h1,h2]
end
section
variable {α:Type} [BEq α] [LawfulBEq α]
abbrev ML (α:Type):=List (α×Value×Nat)
abbrev JR (kv:α→Value) (p:α×Value×Nat):MapEntry:={ key:=kv p.1,val:=p.2.1,born:=p.2.2 }
def zZ (kv:α→Value) (l:ML α) (c:Nat):Obj:= .map (l.map (JR kv)).toArray c
def AQ (l:ML α) (a:α):Option Value:=match l with
 |[]=>none
 |(b,v,_)::r=>if a == b then some v else AQ r a
def BF (l:ML α) (a:α) (v:Value) (c:Nat):ML α:=match l with
 |[]=>[(a,v,c)]
 |(b,u,n)::r=>if a == b then(b,v,n)::r else(b,u,n)::BF r a v c
def EJ (l:ML α) (a:α) (c:Nat):Nat:=if (AQ l a).isSome then c else c+1
def midx (l:ML α) (a:α) (i:Nat):Option (Nat×Value):=match l with
 |[]=>none
 |(b,v,_)::r=>if a == b then some (i,v)else midx r a (i+1)
def FT (P:Program) (K:TypeId) (kv:α→Value):Prop:=
 (∀(a:α) (l:ML α) (w:World),(aG K (kv a) (l.map (JR kv))).run P w= .ok (midx l a 0) w)∧(∀b a w,(aO b 10000 K (kv a)).run P w= .ok () w)∧∀a,aU 10000 (kv a) (kv a)=true
theorem run_findKey{P K w d}(A:P.underlying K=some d){k es r}(h:aQ d k es 0=some r):(aG K k es).run P w= .ok r w:=by
 simp[aG,run_underlying A,h]
omit [LawfulBEq α] in
theorem a5P{kv d}(A:∀a b,aN d (kv a) (kv b)=some (a == b)) a:∀(l:ML α) (i:Nat),aQ d (kv a) (l.map (JR kv)) i=some (midx l a i)
 |[],_=>rfl
 |(b,u,n)::r,i=>by
  simp only[wF,aQ,A,midx];cases a == b
  ·simp only[yL,if_false];exact a5P A a r (i+1)
  simp
omit [LawfulBEq α] in
theorem FT.now{P K}{kv:α→Value}{d}(A:P.underlying K=some d)(G:∀a b,aN d (kv a) (kv b)=some (a == b))(M:∀b a w,(aO b 10000 K (kv a)).run P w= .ok () w)(N:∀a,aU 10000 (kv a) (kv a)=true):FT P K kv:=
 ⟨fun a l _=>run_findKey A (a5P G a l 0),M,N⟩
omit [LawfulBEq α] in
theorem a8s{P K kv w}(A:∀a b,(Op.equal K (kv a) (kv b)).run P w= .ok (a == b) w) a:∀(l:ML α) (i:Nat),(bM K (kv a) (l.map (JR kv)) i).run P w= .ok (midx l a i) w
 |[],i=>by simp[bM,midx]
 |(b,u,n)::r,i=>by
  simp only[wF,bM,midx,aC,A,aB];cases a == b
  ·simp only[yL,if_false];exact a8s A a r (i+1)
  simp
omit [LawfulBEq α] in
theorem FT.equal{P K}{kv:α→Value}{d}(A:P.underlying K=some d)(G:∀a b,aN d (kv a) (kv b)=none)(M:∀a b w,(Op.equal K (kv a) (kv b)).run P w= .ok (a == b) w)(N:∀b a w,(aO b 10000 K (kv a)).run P w= .ok () w)(O:∀a,aU 10000 (kv a) (kv a)=true):FT P K kv:=by
 refine⟨fun a l w=>?_,N,O⟩;cases l with
 |nil=>exact run_findKey A rfl
 |cons p r=>
  have h1:aQ d (kv a) ((p::r).map (JR kv)) 0=none:=by simp[aQ,G]
  have h2:=a8s (P:=P) (K:=K) (w:=w) (fun a b=>M a b w) a (p::r) 0;simp only[aG,aC,run_underlying A,aB,h1];exact h2
theorem FT.int{P K k}(A:P.underlying K=some (.int k)):FT P K (fun a:Int=>Value.int k a):=by
 refine FT.now A (fun a b=>by simp[aN]) (fun b a w=>?_) (fun a=>?_)
 ·have h:∀n,(aO b (n+1) K (.int k a)).run P w= .ok () w:=fun n=>by simp[aO,run_underlying A]
  exact h 9999
 have h:∀n,aU (n+1) (.int k a) (.int k a)=true:=fun n=>by simp[aU]
 exact h 9999
theorem a1n a:∀n,aU n (str a) (str a)=true:=fun n=>by
 cases n<;>simp only[aU,str]<;>(show(a.toArray == a.toArray)=true)<;>simp
theorem FT.text{P K}(A:P.underlying K=some .string):FT P K (fun a:List UInt8=>str a):=by
 refine FT.now A (fun a b=>?_) (fun b a w=>run_checkKey A b a w) (fun a=>a1n a _);simp only[aN,str,bJ];show(a.toArray == b.toArray)=(a == b);simp
theorem WR{a}:∀(l:ML α) (i:Nat),AQ l a=none→midx l a i=none∧∀v c,BF l a v c=l++[(a,v,c)]
 |[],_,_=>⟨rfl,fun _ _=>rfl⟩
 |(b,u,n)::r,i,h=>by
  unfold AQ at h
  split at h
  ·cases h
  rename_i A
  obtain⟨h1,h2⟩:=WR r (i+1) h;have G:(a == b)=false:=by simpa using A
  refine⟨?_,fun v c=>?_⟩
  ·simp only[midx,G];exact h1
  simp only[BF,G,yL,if_false,h2,yC]
theorem a2p{a v}:∀(l:ML α) (i:Nat),AQ l a=some v→
 ∃j u n,midx l a i=some (i+j,v)∧l[j]?=some (a,u,n)∧∀x c,BF l a x c=l.set j (a,x,n)
 |[],_,h=>by cases h
 |(b,u,n)::r,i,h=>by
  unfold AQ at h
  split at h
  ·rename_i N
   have A:=zB N;subst A;cases h;exact⟨0,v,n,by simp[midx],rfl,fun x c=>by simp[BF]⟩
  rename_i G
  have M:(a == b)=false:=by simpa using G
  obtain⟨j,O,Q,h1,h2,h3⟩:=a2p r (i+1) h;refine⟨j+1,O,Q,?_,by simpa using h2,fun x c=>by simp[BF,M,h3]⟩;simp only[midx,M,yL,if_false];rw[h1,Nat.add_assoc,Nat.add_comm 1 j]
variable {cx:Cx} {Q:Qt} {e:Env} {I:Heap} {H:HL} {o:Oper} {C:Ct} {S:World→Prop}
theorem b3d{P:Program}{T K E b c:Nat}{kv:α→Value}{l:ML α}{a:α}{v:Value}{w:World}(Q:P.underlying T=some (.map K E))(hk:FT P K kv)(Z:w.heap[b]?=some (zZ kv l c)):
 (bF T (.map (some b)) (kv a) v).run P w= .ok () (aF w b (zZ kv (BF l a v c) (EJ l a c))):=by
 obtain⟨hf,hc,G⟩:=hk;have hg:(getObj b).run P w= .ok (zZ kv l c) w:=by simp[getObj,bD,Z,zZ]
 have hset:∀o',(setObj b o').run P w= .ok () (aF w b o'):=fun o'=>by simp[setObj,bD,Z,aF,zZ]
 cases hm:AQ l a with
 |none=>
  obtain⟨h1,h2⟩:=WR l 0 hm;have h3:(aG K (kv a) (l.map (JR kv))).run P w= .ok none w:=by rw[hf,h1]
  simp only[bF,aC,run_underlying Q,aB,hg,zZ,hc,h3,hset,h2,EJ,hm];simp
 |some u=>
  obtain⟨j,u',n,h1,h2,h3⟩:=a2p l 0 hm;rw[sS]at h1;have h4:(aG K (kv a) (l.map (JR kv))).run P w= .ok (some (j,u)) w:=by rw[hf,h1]
  have hj:(l.map (JR kv)).toArray[j]?=some { key:=kv a,val:=u',born:=n }:=by simp[h2,JR]
  have M:∀w,(bY (kv a) (kv a)).run P w= .ok (kv a) w:=fun w=>by simp[bY,G]
  simp only[bF,aC,run_underlying Q,aB,hg,zZ,hc,h4,hj,sN,Option.getD_some,M,hset,h3,EJ,hm];simp only[Option.isSome_some,if_true];refine zC (fun A=>Result.ok () (aF w b (Obj.map A c))) ?_
  apply yT
  intro i;rw[yQ];simp only[wY,xB,xA]
  by_cases hi:j=i
  ·subst hi;have N:j<l.length:=by
    rcases tC j l.length with O|O
    ·exact O
    simp[xE O]at h2
   have h5:l[j]=(a,u',n):=by
    have:=xG N;rw[h2]at this;exact(sK this).symm
   simp[N,h5]
  simp[hi]
theorem EY{T K E b c:Nat}{m x y}{kv:α→Value}{l a}{M v:Value}{H'}(i:Nat)(A:o.op= .insert T m x y∨o.op= .mapUpdate T m x y)(hd:o.dst=none)(hm:ev e m=some (.map (some b)))(hx:ev e x=some M)(N:M=kv a)(hy:ev e y=some v)(hT:cx.P.underlying T=some (.map K E))(hK:FT cx.P K kv)
 (O:H[i]?=some (b,zZ kv l c))(Z:BL H i (b,zZ kv (BF l a v c) (EJ l a c)) H')(kk:C e I H'):EZ cx Q o e I H C:=by
 intro _ a0 w0 w G hs;unfold aT;subst N;have hb:=hs.own _ (vS O);have hr:=b3d (a:=a) (v:=v) hT hK hb;have:(execOp w0.eval o).run cx.P w= .ok .skip (aF w b (zZ kv (BF l a v c) (EJ l a c))):=by
  rcases A with A|A<;>simp[execOp,A,G.eval hm,G.eval hx,G.eval hy,hr]
 rw[this];simp only[aH,hd];exact a0 _ _ _ kk _ _ G.XB (hs.block O Z)
theorem a8u{P:Program}{T K E b c:Nat}{kv:α→Value}{l:ML α}{a:α}{z:Value}{w:World}{ok:Bool}(A:P.underlying T=some (.map K E))(O:FT P K kv)(Q:∀w,(zeroValue E).run P w= .ok z w)(Z:w.heap[b]?=some (zZ kv l c)):
 (bG T (.map (some b)) (kv a) ok).run P w= .ok (if ok then .tuple #[(AQ l a).getD z,.bool (AQ l a).isSome]else(AQ l a).getD z) w:=by
 obtain⟨G,M,_⟩:=O;have N:(getObj b).run P w= .ok (zZ kv l c) w:=by simp[getObj,bD,Z,zZ]
 cases hm:AQ l a with
 |none=>
  have h3:(aG K (kv a) (l.map (JR kv))).run P w= .ok none w:=by rw[G,(WR l 0 hm).1]
  simp only[bG,aC,run_underlying A,aB,N,zZ,aJ,M,h3,Q];simp
 |some u=>
  obtain⟨j,_,n,h1,h2,h3⟩:=a2p l 0 hm;have h4:(aG K (kv a) (l.map (JR kv))).run P w= .ok (some (0+j,u)) w:=by rw[G,h1]
  simp only[bG,aC,run_underlying A,aB,N,zZ,aJ,M,h4];simp
theorem XE{T K E b c:Nat}{m x}{kv:α→Value}{l a}{A z:Value}(N:o.op= .lookup T m x true)(O:ev e m=some (.map (some b)))(Q:ev e x=some A)(G:A=kv a)(Z:cx.P.underlying T=some (.map K E))(hK:FT cx.P K kv)(hz:∀w,(zeroValue E).run cx.P w= .ok z w)
 (hb:yX S b (zZ kv l c)):BN cx o e S (.tuple #[(AQ l a).getD z,.bool (AQ l a).isSome]):=by
 intro w0 w M hs;subst G;have hr:=a8u (a:=a) (ok:=true) Z hK hz (hb w hs);simp only[execOp,N,aC,M.eval O,M.eval Q,hr,aB,aJ,if_true]
theorem BJ{T K E b c:Nat}{m x}{kv:α→Value}{l a}{A z:Value}(N:o.op= .lookup T m x false)(O:ev e m=some (.map (some b)))(Q:ev e x=some A)(G:A=kv a)(Z:cx.P.underlying T=some (.map K E))(hK:FT cx.P K kv)(hz:∀w,(zeroValue E).run cx.P w= .ok z w)
 (hb:yX S b (zZ kv l c)):BN cx o e S ((AQ l a).getD z):=by
 intro w0 w M hs;subst G;have hr:=a8u (a:=a) (ok:=false) Z hK hz (hb w hs);simp only[execOp,N,aC,M.eval O,M.eval Q,hr,aB,aJ,if_false,yL]
end
theorem c0x(c d:UInt8):((c.toNat:Int)=(d.toNat:Int))↔c=d:=by
 constructor
 ·intro h;exact sJ.1 oM
 intro h;subst h;rfl
theorem nb(a n:Nat):((a:Int) == (n:Int))=(a == n):=by rw[yM,beq_iff_eq,beq_iff_eq];omega
theorem nb1(a:Nat):((a:Int) == 1)=(a == 1):=nb a 1
theorem OW{c d:UInt8}(h:(c.toNat:Int)=(d.toNat:Int)):c=d:=(c0x c d).1 h
theorem LQ{c d:UInt8}(h:¬(c.toNat:Int)=(d.toNat:Int)):c≠d:=fun e=>h ((c0x c d).2 e)
theorem b9T{s:List UInt8}{k c}(h:s[k]?=some c):(s.take (k+1)).drop k=[c]:=by
 obtain⟨A,G⟩:=xC.1 h;rw[tN A,G,cZ,xX (by simp;omega)];simp[sW (Nat.le_of_lt A)]
theorem c9V{s:List UInt8}{k c d}(h:s[k]?=some c)(h2:s[k+1]?=some d):(s.take (k+2)).drop k=[c,d]:=by
 obtain⟨A,G⟩:=xC.1 h2;rw[tN A,G,List.drop_append_of_le_length (by simp;omega),b9T h];rfl
def IK (T:TypeId) (I:Heap) (l:List (List UInt8)) (v:Value):Prop:=∃b c sp,v= .slice (some ⟨b,0,none⟩) l.length c∧I b=some (yV T (l.map str++sp))
theorem IK.mono{T I A l v}(h:IK T I l v)(G:Le I A):IK T A l v:=
 let ⟨b,c,sp,h1,h2⟩:=h;⟨b,c,sp,h1,G _ _ h2⟩
theorem EL{l:List (List UInt8)}{sp}{k:Nat}{x}(h:l[k]?=some x):(l.map str++sp)[k]?=some (str x):=by
 obtain⟨A,_⟩:=xC.1 h;rw[xJ (by simpa using A)];simp[h]
theorem GK(l:List UInt8):(⟨l.toArray⟩:ByteArray).data.toList=l:=sI
theorem d1O{x}(h: -2147483648≤x∧x≤2147483647):IntKind.i32.wrap x=x:=by
 simp[IntKind.wrap,IntKind.bits,IntKind.signed];omega
theorem drop_cons{α:Type}{s:List α}{k c}(h:s[k]?=some c):s.drop k=c::s.drop (k+1):=by
 obtain⟨A,G⟩:=xC.1 h;rw[List.drop_eq_getElem_cons A,G]
theorem Ej.c6r{A fn}{G:Ending→Heap→HL→Prop}{e I H t u s v x y}(O:fn.results= #[.tmp t,.tmp u,.tmp s])(N:A.ds=[])(Q:eg e t=some v)(Z:eg e u=some x)(hy:eg e s=some y)(hp:G (.returned (.tuple #[v,x,y])) I H):
 Ej A (bodyPost A.P fn (RR A.w0 A.D A.I0 G)) .ret e I H:=by
 intro a w M hs;refine⟨M.defs.trans N,_,?_,I,H,hs,hp⟩;have h1:=M.get t v Q;have h2:=M.get u x Z;have h3:=M.get s y hy;simp[results,O,h1,h2,h3]
theorem yY.frame{P f args I H}{G:Ending→Heap→HL→Prop} R (h:yY P f args I H G):yY P f args I (H++R) (fun e Q H'=>∃H1,H'=H1++R∧G e Q H1):=by
 refine⟨h.1,fun w O=>?_⟩;have A:=bI w I (H++R) O.1 O.2.1 O.2.2.1 O.2.2.2;have M:Ready I H w:=⟨A.sub,fun p N=>A.own p (vZ _ N),by
  have:=A.nodup;rw[wG,vK]at this;exact this.1,fun p N=>A.dis p (vZ _ N)⟩
 refine(h.2 w M).mono fun e w' ⟨Q,H1,Z,N⟩=>⟨Q,H1++R,A.call Z,H1,rfl,N⟩
theorem yY.drop{P f args I H}{G A:Ending→Heap→HL→Prop}(h:yY P f args I H G)(O:∀e M H',G e M H'→∃N,N.Sublist H'∧A e M N):yY P f args I H A:=
 ⟨h.1,fun w Q=>(h.2 w Q).mono fun e _ ⟨M,H',Z,hq⟩=>let ⟨N,h1,h2⟩:=O e M H' hq;⟨M,N,Z.sublist h1,h2⟩⟩
theorem ZF{O Q o e I C R d f fo xs ts Z a0 vs}{M:Ending→Heap→HL→Prop}
 (ho:o.op= .call ⟨.value fo,xs.toArray,ts⟩)(hd:o.dst=some d)(hn:aI d O.n=true)(hf:ev e fo=some (.func (.func f) Z.toArray a0.toArray))(hx:evs e xs=some vs)
 (hs:yY O.P f (Z++vs++a0) I [] M)
 (k:∀v G A,Le I G→(∀p∈A,O.w0.heap.size≤p.1)→M (.returned v) G A→C ((d,v)::e) G (A++R))
 (kp:∀ch G A,Le I G→M (.panicked ch) G A→Ej O Q (.panic ch) e G (A++R))
 (ko:∀G A,¬M .outgrown G A):EZ O Q o e I R C:=by
 intro K hK a w ha a1;unfold aT;have hr:(execOp a.eval o).run O.P w= .ok (.enter f (Z++vs++a0).toArray) w:=by
  have a7:xs.toArray.map a.eval=vs.toArray:=by
   rw[bC,ha.a0a hx]
  simp only[execOp,ho,resolve,a7,ha.eval hf,aW,invoke,aC,aJ,aB,MX hs.1];simp
 rw[hr];simp only[aH];have a2:Ready I [] w:=⟨a1.sub,fun _ N=>absurd N (vG),List.nodup_nil,fun _ N=>absurd N (vG)⟩;refine(hs.2 w a2).mono ?_;rintro en w' ⟨G,A,a3,N⟩;have a5:=a3.le;have a4:=St.call (H1:=[]) (R:=R) a1 a3;have a6:∀p∈A,O.w0.heap.size≤p.1:=fun p N=>Nat.le_trans a1.size ((a3.new p N).resolve_left sI);cases en with
 |returned v=>
  rw[hd];exact hK _ _ _ (k v G A a5 a6 N) _ _ (ha.put hn) a4
 |panicked ch=>exact kp ch G A a5 N _ _ ha a4
 |outgrown=>exact(ko _ _ N).elim
def IV (T:TypeId) (I:Heap) (l:List (List UInt8)) (v:Value):Prop:=(l=[]∧v= .slice none 0 0)∨∃b c sp,v= .slice (some ⟨b,0,none⟩) l.length c∧l.length≤c∧I b=some (yV T (l.map str++sp))
theorem IV.mono{T I A l v}(h:IV T I l v)(G:Le I A):IV T A l v:=h.imp id fun⟨b,c,sp,h1,h2,h3⟩=>⟨b,c,sp,h1,h2,G _ _ h3⟩
theorem IV.some{T I l v}(h:IV T I l v)(A:l≠[]):IK T I l v:=let ⟨b,c,sp,h1,_,h3⟩:=h.resolve_left fun h=>A h.1;⟨b,c,sp,h1,h3⟩
section
variable {cx:Cx} {Q:Qt} {e:Env} {I:Heap} {R:HL} {T:TypeId} {l:List (List UInt8)} {n base:Nat} {g:Gs}
theorem b0I(A:AL base 1 n (l.map str) none):l=[]∧n=0:=⟨by simpa using A.2,A.1⟩
theorem c9H{b c sp}(A:AL base 1 n (l.map str) (some (b,c,sp))):base≤b∧n=l.length∧l.length≤c:=⟨A.1,by have:=A.2.1;simpa using this.symm,by have:=A.2.2;simp at this;omega⟩
theorem b3F{X:Heap→HL→Prop}(G:AL base 1 n (l.map str) g)(N:∀b o,base≤b→(∀A,Le I A→A b=some o→X A R)→X I ((b,o)::R))(k:∀A,Le I A→IV T A l (gV n g)→X A R):X I (gH T (l.map str) g++R):=by
 cases g with
 |none=>
  obtain⟨h1,h2⟩:=b0I G;subst h2;exact k I (Le.refl _) (.inl ⟨h1,rfl⟩)
 |some q=>
  obtain⟨b,c,sp⟩:=q;obtain⟨h1,h2,h3⟩:=c9H G;subst h2;exact N b _ h1 fun A M O=>k A M (.inr ⟨b,c,sp,rfl,h3,O⟩)
theorem Cj.NV{c}(G:AL cx.w0.heap.size 1 n (l.map str) g)(k:∀A,Le I A→IV T A l (gV n g)→Cj cx Q c e A R):Cj cx Q c e I (gH T (l.map str) g++R):=
 b3F (X:=fun I H=>Cj cx Q c e I H) G (fun _ _ M k=>Cj.persist M k) k
theorem J.NV{A r}(M:AL cx.w0.heap.size 1 n (l.map str) g)(k:∀G,Le I G→IV T G l (gV n g)→J cx Q A r e G R):J cx Q A r e I (gH T (l.map str) g++R):=
 b3F (X:=fun I H=>J cx Q A r e I H) M (fun _ _ N k=>J.persist N k) k
end
section
variable {cx:Cx} {Q:Qt} {o:Oper} {e:Env} {I:Heap} {H:HL} {C:Ct} {S:World→Prop}
theorem a3h{d T E sz}(M:o.op= .buildSlice T 0 #[])(N:o.dst=some d)(O:aI d cx.n=true)
 (Z:cx.P.underlying T=some (.slice E))(A:∀w,(sizeOf E).run cx.P w= .ok sz w)
 (k:∀b,cx.w0.heap.size≤b→C ((d,.slice (some ⟨b,0,none⟩) 0 0)::e) I ((b,yV E [])::H)):EZ cx Q o e I H C:=by
 intro K hK a w ha G;unfold aT;have:(execOp a.eval o).run cx.P w= .ok (.value (.slice (some ⟨w.heap.size,0,none⟩) 0 0)) { w with heap:=w.heap.push (yV E []) }:=by
  simp[execOp,M,Instr.buildSlice,run_underlying Z,A,Instr.fill,newRow,yV];exact zC (fun l=>w.alloc (Obj.cells l E)) (Array.eq_empty_of_size_eq_zero sI)
 rw[this];simp only[aH,N];exact hK _ _ _ (k _ G.size) _ _ (ha.put O) (G.alloc _)
theorem c4e{T E sz len}{parts:List (Nat×Operand)}{vs zs cs:List Value}{z}(M:o.op= .build T parts.toArray)(N:evs e (parts.map (·.2))=some vs)
 (O:∀w,(zeroValue T).run cx.P w= .ok z w)(A:z.cells=zs.toArray)(Q:cx.P.underlying T=some (.array len E))(G:∀w,(sizeOf E).run cx.P w= .ok sz w)
 (Z:Instr.fill (fun i=>some (i*sz,sz)) zs.toArray ((parts.map (·.1)).zip vs)=some cs.toArray):BN cx o e S (.agg cs.toArray):=
 b5G M N fun w=>by
  simp only[Instr.build,aC,O,A,run_underlying Q,aB,G,Z,aJ]
theorem b2Y{P w T l m}(A:P.underlying T=some .bool):(Op.equal T (.bool l) (.bool m)).run P w= .ok (l == m) w:=by
 show(aS (9999+1) T (.bool l) (.bool m)).run P w=_;rw[aS];simp only[aC,run_underlying A,aB,aJ]
theorem b9a{x y T U l m}(G:o.op= .binOp .eql T x y U)(M:ev e x=some (.bool l))(N:ev e y=some (.bool m))(O:cx.P.underlying T=some .bool):BN cx o e S (.bool (l == m)):=by
 intro a w A _;have Q:eqGuard .eql T x y (.bool l) (.bool m)=pure ():=rfl;simp[execOp,G,A.eval M,A.eval N,Q,binOp,b2Y O]
end
end Go.Sx
namespace Ke
open Go.Lib (decodeL decodeN)
abbrev Bs:=List UInt8
def TW:Nat→Bs→List Nat
 |0,_=>[]
 |_+1,[]=>[]
 |f+1,c::r=>(decodeL (c::r)).1::TW f ((c::r).drop (decodeL (c::r)).2)
def runes (s:Bs):List Nat:=TW s.length s
theorem b2E:∀(f g:Nat) (s:Bs),s.length≤f→s.length≤g→TW f s=TW g s
 |0,0,_,_,_=>rfl
 |0,g+1,s,h,_=>by
  have:s=[]:=wR.1 oM;subst this;rfl
 |f+1,0,s,_,h=>by
  have:s=[]:=wR.1 oM;subst this;rfl
 |f+1,g+1,[],_,_=>rfl
 |f+1,g+1,c::r,h1,h2=>by
  have A:=aX (c::r);simp only[wU]at h1 h2;simp only[TW];rw[b2E f g _ (by simp;omega) (by simp;omega)]
theorem c3s:runes []=[]:=rfl
theorem XU{s}(h:s≠[]):runes s=(decodeL s).1::runes (s.drop (decodeL s).2):=by
 cases s with
 |nil=>exact absurd rfl h
 |cons c r=>
  have A:=aX (c::r);show TW (r.length+1) (c::r)=_;simp only[TW];unfold runes;rw[b2E r.length _ _ (by simp;omega) (tH _)]
theorem a1s{s:Bs}{i}(h:i<s.length):runes (s.drop i)=(aP ⟨s.toArray⟩ i).1::runes (s.drop (i+(aP ⟨s.toArray⟩ i).2)):=by
 have h1:=bH ⟨s.toArray⟩ i;simp only at h1;rw[←h1,XU (by simp;omega),xY]
theorem a0f{s:Bs}{i}(h:s.length≤i):runes (s.drop i)=[]:=by rw[xX h];rfl
theorem decode_le(s:Bs) i:(aP ⟨s.toArray⟩ i).1≤1114111:=by
 rw[←bH ⟨s.toArray⟩ i];exact bW _
theorem OZ(s:Bs){i}(h:i<s.length):1≤(aP ⟨s.toArray⟩ i).2∧i+(aP ⟨s.toArray⟩ i).2≤s.length:=by
 have h1:decodeL (s.drop i)=aP ⟨s.toArray⟩ i:=bH ⟨s.toArray⟩ i;rw[←h1];refine⟨aX _,?_⟩;have:=Go.Lib.decodeL_le (s.drop i) (by simp;omega);simp only[wS]at this;omega
theorem b4O:∀(f:Nat) (s:Bs),∀c∈TW f s,c≤1114111
 |0,_,c,h=>by cases h
 |_+1,[],c,h=>by cases h
 |f+1,d::r,c,h=>by
  simp only[TW,vX]at h;rcases h with rfl|h
  ·exact bW _
  exact b4O f _ c h
theorem a0t:∀(f:Nat) (s:Bs),(TW f s).length≤s.length
 |0,_=>sQ _
 |_+1,[]=>tH _
 |f+1,d::r=>by
  have A:=aX (d::r);have:=a0t f ((d::r).drop (decodeL (d::r)).2);simp only[TW,wU];simp only[wS,wU]at this;omega
def enc (c:Nat):Bs:=
 if c<128 then[aA c]else if c<2048 then[aA (192+c / 64),aA (128+c % 64)]
 else if c<65536 then[aA (224+c / 4096),aA (128+c / 64 % 64),aA (128+c % 64)]
 else[aA (240+c / 262144),aA (128+c / 4096 % 64),aA (128+c / 64 % 64),aA (128+c % 64)]
def okc (c:Nat):Prop:=c<55296∨(57344≤c∧c<65536)
theorem c4X{c}(h:okc c):bV (c:Int)=true:=by
 unfold okc at h;unfold bV;simp only[Bool.or_eq_true,yP,zG];omega
theorem c2x{c:Nat}(A:bV (c:Int)=true):(bP (c:Int)).data.toList=(if c<128 then(⟨#[aA c]⟩:ByteArray)else if c<2048 then⟨#[aA (192+c / 64),aA (128+c % 64)]⟩else if c<65536 then⟨#[aA (224+c / 4096),aA (128+c / 64 % 64),aA (128+c % 64)]⟩
 else⟨#[aA (240+c / 262144),aA (128+c / 4096 % 64),aA (128+c / 64 % 64),aA (128+c % 64)]⟩).data.toList:=by
 unfold bP;simp only[A,if_true,Int.toNat_natCast]
theorem a8j{c}(h:okc c):(bP (c:Int)).data.toList=enc c:=by
 rw[c2x (c4X h)];unfold enc
 by_cases h1:c<128
 ·rw[zF h1,zF h1]
 rw[zD h1,zD h1]
 by_cases h2:c<2048
 ·rw[zF h2,zF h2]
 rw[zD h2,zD h2]
 by_cases h3:c<65536
 ·rw[zF h3,zF h3]
 rw[zD h3,zD h3]
def rows:List (Bs×Bs):=[
 ([97],[195,160,195,161,195,162,195,163,195,164,195,165,196,129,196,131,196,133,195,128,195,129,195,130,195,131,195,132,195,133,196,128,196,130,196,132]),
 ([99],[195,167,196,135,196,137,196,139,196,141,195,135,196,134,196,136,196,138,196,140]),
 ([100],[196,143,196,145,195,176,196,142,196,144,195,144]),
 ([101],[195,168,195,169,195,170,195,171,196,147,196,149,196,151,196,153,196,155,195,136,195,137,195,138,195,139,196,146,196,148,196,150,196,152,196,154]),
 ([103],[196,157,196,159,196,161,196,163,196,156,196,158,196,160,196,162]),
 ([104],[196,165,196,167,196,164,196,166]),
 ([105],[195,172,195,173,195,174,195,175,196,169,196,171,196,173,196,175,196,177,195,140,195,141,195,142,195,143,196,168,196,170,196,172,196,174,196,176]),
 ([106],[196,181,196,180]),
 ([107],[196,183,196,182]),
 ([108],[196,186,196,188,196,190,197,130,196,185,196,187,196,189,197,129]),
 ([110],[195,177,197,132,197,134,197,136,195,145,197,131,197,133,197,135]),
 ([111],[195,178,195,179,195,180,195,181,195,182,195,184,197,141,197,143,197,145,198,161,195,146,195,147,195,148,195,149,195,150,195,152,197,140,197,142,197,144,198,160]),
 ([114],[197,149,197,151,197,153,197,148,197,150,197,152]),
 ([115],[197,155,197,157,197,159,197,161,197,154,197,156,197,158,197,160]),
 ([116],[197,163,197,165,197,167,197,162,197,164,197,166]),
 ([117],[195,185,195,186,195,187,195,188,197,169,197,171,197,173,197,175,197,177,197,179,198,176,195,153,195,154,195,155,195,156,197,168,197,170,197,172,197,174,197,176,197,178,198,175]),
 ([119],[197,181,197,180]),
 ([121],[195,189,195,191,197,183,195,157,197,184,197,182]),
 ([122],[197,186,197,188,197,190,197,185,197,187,197,189]),
 ([97,101],[195,166,195,134]),
 ([111,101],[197,147,197,146]),
 ([115,115],[195,159]),
 ([116,104],[195,190,195,158]),
 ([206,177],[206,172,206,134]),
 ([206,181],[206,173,206,136]),
 ([206,183],[206,174,206,137]),
 ([206,185],[206,175,207,138,206,144,206,138,206,170]),
 ([206,191],[207,140,206,140]),
 ([207,133],[207,141,207,139,206,176,206,142,206,171]),
 ([207,137],[207,142,206,143]),
 ([208,181],[209,145,208,129])]
def tab:List (Nat×Bs):=[
 (224,[97]),(225,[97]),(226,[97]),(227,[97]),(228,[97]),(229,[97]),(257,[97]),(259,[97]),(261,[97]),(192,[97]),(193,[97]),(194,[97]),(195,[97]),(196,[97]),(197,[97]),(256,[97]),(258,[97]),(260,[97]),
 (231,[99]),(263,[99]),(265,[99]),(267,[99]),(269,[99]),(199,[99]),(262,[99]),(264,[99]),(266,[99]),(268,[99]),
 (271,[100]),(273,[100]),(240,[100]),(270,[100]),(272,[100]),(208,[100]),
 (232,[101]),(233,[101]),(234,[101]),(235,[101]),(275,[101]),(277,[101]),(279,[101]),(281,[101]),(283,[101]),(200,[101]),(201,[101]),(202,[101]),(203,[101]),(274,[101]),(276,[101]),(278,[101]),(280,[101]),(282,[101]),
 (285,[103]),(287,[103]),(289,[103]),(291,[103]),(284,[103]),(286,[103]),(288,[103]),(290,[103]),
 (293,[104]),(295,[104]),(292,[104]),(294,[104]),
 (236,[105]),(237,[105]),(238,[105]),(239,[105]),(297,[105]),(299,[105]),(301,[105]),(303,[105]),(305,[105]),(204,[105]),(205,[105]),(206,[105]),(207,[105]),(296,[105]),(298,[105]),(300,[105]),(302,[105]),(304,[105]),
 (309,[106]),(308,[106]),
 (311,[107]),(310,[107]),
 (314,[108]),(316,[108]),(318,[108]),(322,[108]),(313,[108]),(315,[108]),(317,[108]),(321,[108]),
 (241,[110]),(324,[110]),(326,[110]),(328,[110]),(209,[110]),(323,[110]),(325,[110]),(327,[110]),
 (242,[111]),(243,[111]),(244,[111]),(245,[111]),(246,[111]),(248,[111]),(333,[111]),(335,[111]),(337,[111]),(417,[111]),(210,[111]),(211,[111]),(212,[111]),(213,[111]),(214,[111]),(216,[111]),(332,[111]),(334,[111]),(336,[111]),(416,[111]),
 (341,[114]),(343,[114]),(345,[114]),(340,[114]),(342,[114]),(344,[114]),
 (347,[115]),(349,[115]),(351,[115]),(353,[115]),(346,[115]),(348,[115]),(350,[115]),(352,[115]),
 (355,[116]),(357,[116]),(359,[116]),(354,[116]),(356,[116]),(358,[116]),
 (249,[117]),(250,[117]),(251,[117]),(252,[117]),(361,[117]),(363,[117]),(365,[117]),(367,[117]),(369,[117]),(371,[117]),(432,[117]),(217,[117]),(218,[117]),(219,[117]),(220,[117]),(360,[117]),(362,[117]),(364,[117]),(366,[117]),(368,[117]),(370,[117]),(431,[117]),
 (373,[119]),(372,[119]),
 (253,[121]),(255,[121]),(375,[121]),(221,[121]),(376,[121]),(374,[121]),
 (378,[122]),(380,[122]),(382,[122]),(377,[122]),(379,[122]),(381,[122]),
 (230,[97,101]),(198,[97,101]),
 (339,[111,101]),(338,[111,101]),
 (223,[115,115]),
 (254,[116,104]),(222,[116,104]),
 (940,[206,177]),(902,[206,177]),
 (941,[206,181]),(904,[206,181]),
 (942,[206,183]),(905,[206,183]),
 (943,[206,185]),(970,[206,185]),(912,[206,185]),(906,[206,185]),(938,[206,185]),
 (972,[206,191]),(908,[206,191]),
 (973,[207,133]),(971,[207,133]),(944,[207,133]),(910,[207,133]),(939,[207,133]),
 (974,[207,137]),(911,[207,137]),
 (1105,[208,181]),(1025,[208,181])]
def char (c:Nat):Bs:=
 if (97≤c∧c≤122)∨(48≤c∧c≤57)then enc c
 else if 65≤c∧c≤90 then enc (c+32)
 else if c<128 then[32]
 else if (768≤c∧c≤879)∨(65056≤c∧c≤65071)then[]
 else match tab.lookup c with
  |some s=>s
  |none=>
   if c=962 then enc 963
   else if (945≤c∧c≤969)∨(1072≤c∧c≤1103)then enc c
   else if ((913≤c∧c≤937)∧c≠930)∨(1040≤c∧c≤1071)then enc (c+32)
   else[32]
def KW:List (Bs×Bs)→List (Nat×Bs)
 |[]=>[]
 |(a,b)::r=>(runes b).map (·,a)++KW r
theorem a9r:KW rows=tab:=kR
theorem b1y:(tab.map (·.1)).Nodup:=by decide +kernel
def wf (w:Bs):List Nat→List Bs
 |[]=>if w=[]then[]else[w]
 |c::r=>if char c=[32]then(if w=[]then wf [] r else w::wf [] r)else wf (w++char c) r
def words (s:Bs):List Bs:=wf [] (runes s)
def join:List Bs→Bs
 |[]=>[]
 |[a]=>a
 |a::b::r=>a++[32]++join (b::r)
theorem ZH:∀(l:List Nat) (w:Bs),∀x∈wf w l,x≠[]
 |[],w,x,h=>by
  unfold wf at h
  split at h
  ·cases h
  simp at h;subst h;assumption
 |c::r,w,x,h=>by
  unfold wf at h
  split at h
  ·split at h
   ·exact ZH r [] x h
   rcases vX.1 h with rfl|h
   ·assumption
   exact ZH r [] x h
  exact ZH r _ x h
def digit (c:UInt8):Bool:=48≤c && c≤57
def digits (s:Bs):Bool:=s.all digit
def strip (s:Bs):Bs:=(s.dropLast.dropWhile (· == 48))++s.drop (s.length-1)
def number (s:Bs):Bs:=
 let t:=strip s
 let n:=min t.length 99
 [aA (48+n / 10),aA (48+n % 10)]++t
def KF (w:Bs):Bs:=if digits w then number w else w
def cut (s:Bs) (skip:Int):Bs:=s.drop (min (max skip 0) s.length).toNat
def GL (s:Bs) (skip:Int):Bs:=join ((words (cut s skip)).map KF)
end Ke
namespace Ke
def okb (c:UInt8):Bool:=digit c || c == 88 || c == 120 || c == 32 || c == 45
def nb (c:UInt8):Bool:= !(c == 32 || c == 45)
def up (c:UInt8):UInt8:=if c=120 then 88 else c
def norm (s:Bs):Bs:=((s.takeWhile okb).filter nb).map up
def a3U:Nat→Bs→Nat
 |_,[]=>0
 |k,c::r=>(c.toNat-48)*(1+2*(k % 2))+a3U (k+1) r
def check (s:Bs):UInt8:=aA (48+(10-a3U 0 (s.take 12) % 10) % 10)
def val (c:UInt8):Nat:=if c=88 then 10 else c.toNat-48
def a1m:Nat→Bs→Nat
 |_,[]=>0
 |k,c::r=>(10-k)*val c+a1m (k+1) r
def a3E (s:Bs):Bool:=a1m 0 s % 11 == 0 && digits (s.take 9)
def b3o (t:Bs):Bs×Bool:=
 if t.length=10∧a3E t=true then([57,55,56]++t.take 9++[check ([57,55,56]++t.take 9)],true)
 else if t.length=13∧digits t=true∧check t=t.getD 12 0 then(t,true)
 else([],false)
def WC (s:Bs):Bs×Bool:=b3o (norm s)
theorem a3D{p:UInt8→Prop}(h:∀n<256,p (aA n)) c:p c:=by
 have:=h c.toNat c.toNat_lt
 rwa [UInt8.ofNat_toNat]at this
theorem TD{c}:digit c=true↔48≤c.toNat∧c.toNat≤57:=by
 simp[digit,UInt8.le_iff_toNat_le]
theorem digit_ok{c}(h:digit c=true):okb c=true∧nb c=true∧up c=c:=by
 revert h;exact a3D (p:=fun c=>digit c=true→okb c=true∧nb c=true∧up c=c) (by decide +kernel) c
theorem a6U{c r}:digits (c::r)=(digit c && digits r):=rfl
theorem a3V{a b}:digits (a++b)=(digits a && digits b):=by simp[digits,List.all_append]
theorem b4a:∀{s:Bs},(∀c∈s,up c=c)→s.map up=s
 |[],_=>rfl
 |c::r,h=>by rw[wF,h c (.head _),b4a fun d A=>h d (.tail _ A)]
theorem b5E:∀(a b:Bs) (k:Nat),a3U k (a++b)=a3U k a+a3U (k+a.length) b
 |[],b,k=>by simp[a3U]
 |c::r,b,k=>by
  simp only[yC,a3U,wU,b5E r b (k+1)];rw[show k+1+r.length=k+(r.length+1) by omega];omega
theorem b4H:∀(a b:Bs) (k:Nat),a1m k (a++b)=a1m k a+a1m (k+a.length) b
 |[],b,k=>by simp[a1m]
 |c::r,b,k=>by
  simp only[yC,a1m,wU,b4H r b (k+1)];rw[show k+1+r.length=k+(r.length+1) by omega];omega
theorem c0n{s}(h:digits s=true):s.map up=s:=b4a fun c A=>(digit_ok (yG.1 h c A)).2.2
end Ke
section
namespace Ke
def rep (s:Bs):Bs:=s.filter nb
theorem d1f c:nb c= !(c == 32 || c == 45):=rfl
end Ke
namespace Go.Sx
def buf (E:List UInt8) (n:Nat):List Value:=DJ E++aZ (n-E.length) (.int .u8 0)
theorem c9q n:buf [] n=aZ n (.int .u8 0):=by simp[buf,DJ]
theorem b7s{E n}(h:E.length≤n):(buf E n).length=n:=by simp[buf,DJ];omega
theorem c9f{E X n}(h:E.length+X.length≤n):AX (buf E n) E.length (DJ X) (buf (E++X) n):=by
 have A:(DJ X).length=X.length:=NT X;have G:(DJ E).length=E.length:=NT E;refine⟨by rw[b7s oM,A];exact h,?_⟩;unfold buf;rw[A,tZ oM,tX oM,cZ,xX oM,G];simp only[DJ,wG,vM,yE,List.drop_replicate,wV]
 congr 2
 congr 1
 omega
theorem c8u{E n} c (h:E.length<n):(buf E n).set E.length (u8 c)=buf (E++[c]) n:=by
 have A:(DJ E).length=E.length:=NT E;unfold buf;rw[uO _ _ oM,A,Nat.sub_self];obtain⟨m,G⟩:∃m,n-E.length=m+1:=⟨n-E.length-1,oM⟩;have h2:n-(E++[c]).length=m:=by simp;omega
 rw[G,h2,List.replicate_succ,uM];simp[DJ]
theorem c5z{E n}(h:n=E.length):buf E n=DJ E++[]:=by
 subst h;simp[buf]
