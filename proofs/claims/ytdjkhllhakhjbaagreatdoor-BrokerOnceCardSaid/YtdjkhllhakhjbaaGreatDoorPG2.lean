/-
  Own texts on the laws of the seat, joined: the logic, and contracts of functions. Conditions: none.
-/
import Derived.Test.YtdjkhllhakhjbaaGreatDoorNmG
import Derived.Test.YtdjkhllhakhjbaaGreatDoorPG1
import Derived.Laws.RangeAny
import Derived.Scope
import Derived.Below
import Derived.Lib.Builder
import Derived.Lib.UnsafeStr
import Derived.Laws.Externs
import Derived.Recover
import Derived.Laws.MakeOwn
import Derived.LoopN
import Derived.Test.YtdjkhllhakhjbaaGreatDoorChecked
import Derived.Tactics
import Derived.Tactics2
import Derived.Laws.Pointers
import Derived.Laws.LoneSync
import Derived.RegionTactic
import Derived.RegionCalls
import Derived.ChangeAlike
import Derived.RangeFuncRecord
import Derived.Lib.TrimUEq
import Derived.Lib.TrimAscii
import Derived.Lib.MapLaws
set_option linter.all false
set_option maxRecDepth 100000
set_option maxHeartbeats 40000000
open UInt8 renaming ofNat -> aA
open Go.Result renaming andThen_ok -> aB,andThen -> dL
open List renaming mem_append_left -> aC,mem_of_getElem? -> aG,map_append -> aX,nodup_append -> bC,length_cons -> bG,getElem?_append_right -> bH,getElem?_append_left -> bI,getElem?_eq_some_iff -> bJ,replicate -> bM,drop_eq_nil_of_le -> bQ,map_toArray -> bT,take_append_of_le_length -> bY,perm_middle -> dD,cons_append -> dG,length_eq_zero_iff -> dH,take_of_length_le -> dJ,sublist_cons_self -> dK,set_append_right -> dP,perm_append_comm -> dQ,length_append -> dV,getElem?_set -> dX,getElem?_map -> dY,not_mem_nil -> eG,length_drop -> eH,map_cons -> fB
open Go.Sem renaming run_bind -> aF,run_pure -> aO,run -> bU
open Go.Sx.World renaming block -> aH
open Go.Instr renaming findKey -> aI,sameNow -> aP,checkKey -> aQ,findNow -> aT,sameBits -> aW,mapUpdate -> bV,lookup -> bW,findAsking -> dF,keyThatStays -> dW,typeAssert -> eF
open Go.Oper renaming upon -> aJ,wp -> aV
open Nat renaming blt -> aK,lt_or_ge -> dU
open Go.Proofs.Tryz renaming prog -> aN
open Go.Utf8 renaming decode -> aS,encode -> dI,valid -> dS
open Go.Op renaming equalIn -> aU,maxDepth -> dZ
open Go.Fence renaming wide -> aY
open Bool renaming false_eq_true -> aZ
open Go.Deferred renaming ofValue -> bD
open Go.Lib renaming decodeL_width -> bF,decodeL_drop -> bZ
open Option renaming isSome_iff_exists -> bK,map_eq_some_iff -> bP
open Go.Sx.St renaming start -> cO
open Array renaming ext_getElem? -> cZ,getElem?_modify -> dM
open Option.some renaming injEq -> dA
open Go.Addr renaming add_lit -> dB
open Go.Sx.DZ renaming z -> dN
open Go.Region renaming wanted -> dR
open Go.Value renaming func -> eP,oneCell' -> eU
open Go.Sx.Has renaming start -> eX
open Prod.mk renaming injEq -> eY
open Go.World renaming frozen? -> fA
open Go.Extern.AbiNoEscape renaming same -> fC
namespace Go.Sx
open Go Go.RowKit
theorem St.below{w w' I}(hr:Ready I [] w)(h:Below w.heap.size w w'):St w [] I I [] w':=by
 have N:∀{b:Nat} {o':Obj},w.heap[b]?=some o'→b<w.heap.size:=fun {b o'} A=>by
  rcases dU b w.heap.size with G|G
  ·exact G
  simp[Array.getElem?_eq_none G]at A
 exact⟨h.os,h.tape,h.output,h.size,fun b A _=>h.block b A,fun b o A=>by rw[h.block b (N (hr.1 b o A))];exact hr.1 b o A,sI,sI,sI,sI,fun _ _=>rfl,Le.refl _,a1J⟩
theorem Pure.of_below{P f args I v}(G:Enters P f)(h:∀w,Ready I [] w→Calls P f args.toArray w fun e w'=>e= .returned v∧Below w.heap.size w w'):Pure P f args I v:=
 ⟨G,fun w A=>(h w A).mono fun _ _ ⟨N,O⟩=>⟨I,[],St.below A O,N,rfl,rfl⟩⟩
theorem Pure.of_same{P f args I v}(A:Enters P f)(h:∀w,Ready I [] w→Calls P f args.toArray w fun e w'=>e= .returned v∧w'=w):Pure P f args I v:=
 Pure.of_below A fun w G=>(h w G).mono fun _ _ ⟨N,O⟩=>⟨N,O▸Below.refl _ _⟩
theorem Enters.of{P f fn}(h:P.funcs[f]?=some fn)(A:fn.name≠ "runtime.NumGoroutine")(G:fn.body.isNone=false):Enters P f:=⟨fn,h,A,G⟩
section
variable {cx:Cx} {Q:Qt} {e:Env} {I:Heap} {H:HL} {o:Oper} {C:Ct} {S:World→Prop}
theorem Cj.scope{c}(h:Cj cx (Exit.noGoto Q) c e I H)(hr:cx.rd=none:=by rfl):Cj cx Q (.scope c) e I H:=Cj.of_wp hr fun _ _ A hs=>wp_scope_straight (h.wp hr A hs)
theorem Ej.a9R(h:Ej cx Q .ret e I H):Ej cx (Exit.noGoto Q) .ret e I H:=h
theorem OH{T d x s}(A:o.op= .range T x)(hd:o.dst=some d)(hn:aK d cx.n=true)(G:ev e x=some (.string s))(N:cx.P.underlying T=some .string)
 (k:∀b,cx.w0.heap.size≤b→C ((d,ptr b 0)::e) I ((b,.stringIter s 0)::H)):GR cx Q o e I H C:=by
 intro K O a w h hs;unfold aV;have:(execOp a.eval o).run cx.P w= .ok (.value (ptr w.heap.size 0)) { w with heap:=w.heap.push (.stringIter s 0) }:=by
  simp only[execOp,A,h.eval G,aF,run_range_string w T s N,aB,aO];rfl
 rw[this];simp only[aJ,hd];exact O _ _ _ (k _ hs.size) _ _ (h.put hn) (hs.alloc _)
theorem XV{d b pos x s H'} i (N:o.op= .next x true)(hd:o.dst=some d)(hn:aK d cx.n=true)(O:ev e x=some (ptr b 0))(h:H[i]?=some (b,.stringIter s pos))(Z:pos<s.size)
 (A:DZ H i (b,.stringIter s (pos+(aS s pos).2)) H')(k:C ((d,.tuple #[.bool true,.int .i64 pos,.int .i32 (aS s pos).1])::e) I H'):GR cx Q o e I H C:=by
 intro K hK a w G hs;unfold aV;have hb:=hs.own _ (aG h);have:(execOp a.eval o).run cx.P w= .ok (.value (.tuple #[.bool true,.int .i64 pos,.int .i32 (aS s pos).1])) (aH w b (.stringIter s (pos+(aS s pos).2))):=by
  simp only[execOp,N,G.eval O,Instr.next,getObj,setObj,aF,bU,hb,dL,Z,if_true];simp[goInt,aH]
 rw[this];simp only[aJ,hd];exact hK _ _ _ k _ _ (G.put hn) (hs.block h A)
theorem TL{d b pos x s}(i:Nat)(A:o.op= .next x true)(hd:o.dst=some d)(hn:aK d cx.n=true)(G:ev e x=some (ptr b 0))(N:H[i]?=some (b,.stringIter s pos))(O:¬pos<s.size)
 (k:C ((d,.tuple #[.bool false])::e) I H):GR cx Q o e I H C:=by
 intro K Z a w h hs;unfold aV;have hb:=hs.own _ (aG N);have:(execOp a.eval o).run cx.P w= .ok (.value (.tuple #[.bool false])) w:=by
  simp[execOp,A,h.eval G,Instr.next,getObj,aF,bU,hb,dL,O]
 rw[this];simp only[aJ,hd];exact Z _ _ _ k _ _ (h.put hn) hs
theorem LC{h T x k r}(A:o.op= .convert h T x)(G:ev e x=some (.int k r))(N:cx.P.underlying h=some (.int k))(O:cx.P.underlying T=some .string):CW cx o e S (str (dI r).data.toList):=by
 intro a w Q _;simp[execOp,A,Q.eval G,convert,run_underlying N,run_underlying O,str,Conv.intToString]
end
end Go.Sx
namespace Go.Sx
open Go
theorem ZK{w:World}{b cs t fr}(h:w.heap[b]?=some (.cells cs t fr)):w.shape? b=some (t,cs.size):=by simp[World.shape?,h]
theorem yS.still{P f args I H}{A:Ending→HL→Prop}(h:yS P f args I H (fun e _ H'=>A e H')):yS P f args I H (fun e G H'=>I=G∧A e H'):=h.forget fun _ _ _ _ N=>⟨rfl,N⟩
theorem b3G{b t:Nat×Obj}{G:HL}:List.Sublist [t] (b::t::G):= .cons _ (.cons_cons _ (List.nil_sublist _))
theorem NH n g:(gV n g).cells=[gV n g].toArray:=by cases g<;>rfl
theorem UF n g:[gV n g].all eU=true:=by cases g<;>rfl
section
variable {cx:Cx} {Q:Qt} {e:Env} {I:Heap} {H:HL} {o:Oper} {C:Ct} {S:World→Prop}
theorem b5D{P w T A j} p (G:P.underlying T=some (.pointer A))(N:P.info? A=some j):(binOp .eql T (.pointer p) (.pointer none)).run P w= .ok (.bool p.isNone) w:=by
 have h:∀d:Nat,(aU (d+1) T (.pointer p) (.pointer none)).run P w= .ok p.isNone w:=fun d=>by
  cases p<;>simp[aU,run_underlying G,sizeOf,typeInfo,samePointer]
 simp only[binOp];simp[Op.equal,dZ,h 9999]
theorem b8F{x y T U h} p (N:o.op= .binOp .eql T x y U)(O:ev e x=some (.pointer p))(Q:ev e y=some (.pointer none))(Z:cx.P.underlying T=some (.pointer h))(A:(cx.P.info? h).isSome=true):CW cx o e S (.bool p.isNone):=by
 intro a w G _;obtain⟨j,hj⟩:=bK.1 A;have hb:=b5D (P:=cx.P) (w:=w) p Z hj;have hg:eqGuard .eql T x y (.pointer p) (.pointer none)=pure ():=rfl;simp[execOp,N,G.eval O,G.eval Q,hb,hg]
theorem OV{x y:Operand}{T U h:Nat}{p:Option Addr}(G:cx.P.underlying T=some (.pointer h))(N:o.op= .binOp .eql T x y U:=by exact rfl)(O:ev e x=some (.pointer p):=by exact rfl)(Q:ev e y=some (.pointer none):=by exact rfl)(A:(cx.P.info? h).isSome=true:=by kernel_rfl):CW cx o e S (.bool p.isNone):=b8F p N O Q G A
theorem b4E{x y T U h b off}(N:o.op= .binOp .neq T x y U)(O:ev e x=some (ptr b off))(Q:ev e y=some (ptr b off))(Z:cx.P.underlying T=some (.pointer h))(A:(cx.P.info? h).isSome=true):CW cx o e S (.bool false):=by
 intro a w G _;obtain⟨j,hj⟩:=bK.1 A;have hb:=Lib.run_neq_ptr_same (P:=cx.P) w ⟨b,off,none⟩ Z hj;have hg:eqGuard .neq T x y (ptr b off) (ptr b off)=pure ():=rfl;simp[execOp,N,G.eval O,G.eval Q,hb,hg]
theorem b2N{x G T N b off} z {cs:List Value}{t fr}(Q:o.op= .convert G T x)(Z:ev e x=some (ptr b off))(hS:cx.P.underlying G=some (.pointer N))(hT:cx.P.underlying T=some .unsafePointer)(O:(cx.P.info? N).map (·.size)=some (z+1))
 (hb:yR S b (.cells cs.toArray t fr))(A:off<cs.length):CW cx o e S (ptr b off):=by
 intro a w ha hs;obtain⟨j,hj,hz⟩:=bP.1 O;have hz:j.size≠0:=oM;have h:=Lib.run_to_unsafe (P:=cx.P) (w:=w) ⟨b,off,none⟩ hS hT hj hz (ZK (hb w hs)) (by simpa using A);simp[execOp,Q,ha.eval Z,h]
theorem a9u{x G T A b off}{cs:List Value}{t fr}(O:o.op= .convert G T x)(Q:ev e x=some (ptr b off))(Z:cx.P.underlying G=some .unsafePointer)(hT:cx.P.underlying T=some (.pointer A))(N:(cx.P.info? A).isSome=true)
 (hb:yR S b (.cells cs.toArray t fr))(hl:liesAt cx.P cx.P.depth t (cs.length / cx.P.cellsOf t) off A 1=true):CW cx o e S (ptr b off):=by
 intro a w ha hs;obtain⟨j,hj⟩:=bK.1 N;have h:=Lib.run_from_unsafe (P:=cx.P) (w:=w) ⟨b,off,none⟩ Z hT hj (ZK (hb w hs)) (by simpa using hl);simp[execOp,O,ha.eval Q,h]
theorem b3j{f fn A x ts v}(N:o.op= .call ⟨.value A,#[x],ts⟩)(hf:ev e A=some (.func (.func f) #[] #[]))(O:ev e x=some v)(Q:cx.P.funcs[f]?=some fn)(Z:(fn.name == "runtime.NumGoroutine")=false)(h3:fn.body.isNone=true)
 (h4:Extern.findNext fn=none)(h5:Extern.find fn=some fC):CW cx o e S v:=by
 intro a w G _;have h:=run_callFunc_extern Q Z h3 h4 h5 #[v] w;simp[execOp,N,resolve,invoke,G.eval hf,G.eval O,h,bD,Lib.run_noEscape,dL]
theorem b1V{x T b off n c}(A:o.op= .call ⟨.builtin .unsafeSliceData,#[x],#[T]⟩)(G:ev e x=some (.slice (some ⟨b,off,none⟩) n c))(N:c≠0):CW cx o e S (ptr b off):=by
 intro a w O _;have h:=fun Q=>Lib.run_unsafeSliceData_row (P:=cx.P) (w:=w) #[T] Q ⟨b,off,none⟩ n c N;simp[execOp,A,resolve,invoke,O.eval G,builtin,h]
theorem a7f{x T n c}(A:o.op= .call ⟨.builtin .unsafeSliceData,#[x],#[T]⟩)(G:ev e x=some (.slice none n c)):CW cx o e S (.pointer none):=by
 intro a w N _;have h:=fun O=>Lib.run_unsafeSliceData_nil (P:=cx.P) (w:=w) #[T] O n c;simp[execOp,A,resolve,invoke,N.eval G,builtin,h]
theorem a3g{x y p T U}(G:o.op= .call ⟨.builtin .unsafeString,#[x,y],#[T,U]⟩)(N:ev e x=some (.pointer p))(O:ev e y=some (i64 0)):CW cx o e S (str []):=by
 intro a w A _;have h:=fun Q=>Lib.run_unsafeString_none (P:=cx.P) (w:=w) T U Q p;simp[execOp,G,resolve,invoke,A.eval N,A.eval O,builtin,h];rfl
theorem a6J{x y T U E d b} i l {cs H'}(ho:o.op= .call ⟨.builtin .unsafeString,#[x,y],#[T,U]⟩)(hd:o.dst=some d)(hn:aK d cx.n=true)(hx:ev e x=some (ptr b 0))(hy:ev e y=some (i64 l.length))
 (hT:cx.P.underlying T=some (.pointer E))(hE:cx.P.cellsOf E=1)(A:H[i]?=some (b,yZ E (EY l++cs)))(O:l≠[])(Z:l.length≤9223372036854775807)(a0:DZ H i (b,.cells (EY l++cs).toArray E (0,l.length)) H')(k:C ((d,str l)::e) I H'):GR cx Q o e I H C:=by
 intro K hK a w G hs;unfold aV;have N:=hs.own _ (aG A);have h:=fun ty=>Lib.run_unsafeString_row (P:=cx.P) (w:=w) T U ty E hT hE b (EY l++cs).length (by rw[ZK N];simp) l O (by rw[dV,TD];omega) Z (fun j x hj=>by
  rw[dB];refine cell_of_heap N ?_;rw[bI (by rw[TD,Nat.zero_add];exact(bJ.1 hj).1)];simp[EY,hj])
 have a1:w.freeze ⟨b,0,none⟩ l.length=aH w b (.cells (EY l++cs).toArray E (0,l.length)):=by
  have hl:l.length≠0:=by simpa using O
  unfold World.freeze aH;rw[zF hl]
  congr 1
  apply cZ
  intro k;rw[dM,Array.getElem?_setIfInBounds]
  by_cases hk:b=k
  ·subst hk;have a2:b<w.heap.size:=hs.lt (aG A);rw[zG rfl,zG rfl,zG a2,show w.heap[b]?=_ from N];simp[yZ]
  simp[hk]
 have:(execOp a.eval o).run cx.P w= .ok (.value (str l)) (aH w b (.cells (EY l++cs).toArray E (0,l.length))):=by
  simp[execOp,ho,resolve,invoke,G.eval hx,G.eval hy,builtin,h,a1,str]
 rw[this];simp only[aJ,hd];exact hK _ _ _ k _ _ (G.put hn) (hs.block A a0)
end
section
variable {cx:Cx} {Q:Qt} {e:Env} {I:Heap} {H:HL} {o:Oper} {C:Ct}
theorem b8X{x T v}(A:o.op= .panic x)(G:ev e x=some (.iface T v))(k:Ej cx Q (.panic [{ v:= .iface T v,recovered:=false }]) e I H):GR cx Q o e I H C:=by
 intro K _ a w h hs;unfold aV;have:(execOp a.eval o).run cx.P w= .halt (.panic (.iface T v)) w:=by
  simp[execOp,A,h.eval G,Instr.panic,goPanic]
 rw[this];exact k a w h hs
end
theorem run_checkKey{P K}(A:P.underlying K=some .string) b v w:(aQ b 10000 K (str v)).run P w= .ok () w:=by
 have h:∀n,(aQ b (n+1) K (str v)).run P w= .ok () w:=fun n=>by simp[aQ,run_underlying A,str]
 exact h 9999
section
variable {cx:Cx} {Q:Qt} {e:Env} {I:Heap} {H:HL} {o:Oper} {C:Ct} {S:World→Prop}
def ent (k:List UInt8) (v:Value):MapEntry:={ key:=str k,val:=v,born:=0 }
theorem BK{T d}(h:o.op= .makeMap T none)(hd:o.dst=some d)(hn:aK d cx.n=true)(k:∀b,cx.w0.heap.size≤b→C ((d,.map (some b))::e) I ((b,.map #[] 0)::H)):GR cx Q o e I H C:=by
 intro K A a w G hs;unfold aV;have:(execOp a.eval o).run cx.P w= .ok (.value (.map (some w.heap.size))) { w with heap:=w.heap.push (.map #[] 0) }:=by
  simp[execOp,h,Instr.makeMap,newObj,bU]
 rw[this];simp only[aJ,hd];exact A _ _ _ (k _ hs.size) _ _ (G.put hn) (hs.alloc _)
theorem b6d{T K E b m x y k v H'} i (ho:o.op= .insert T m x y)(hd:o.dst=none)(hm:ev e m=some (.map (some b)))(hx:ev e x=some (str k))(hy:ev e y=some v)(hT:cx.P.underlying T=some (.map K E))(A:cx.P.underlying K=some .string)
 (G:H[i]?=some (b,.map #[] 0))(N:DZ H i (b,.map #[ent k v] 1) H')(kk:C e I H'):GR cx Q o e I H C:=by
 intro _ O a w h hs;unfold aV;have hb:=hs.own _ (aG G);have Z:=fun b'=>run_checkKey (P:=cx.P) A b' k w;have:(execOp a.eval o).run cx.P w= .ok .skip (aH w b (.map #[ent k v] 1)):=by
  simp[Z,execOp,ho,h.eval hm,h.eval hx,h.eval hy,bV,run_underlying hT,run_underlying A,getObj,setObj,bU,hb,aI,aT,aH,ent]
 rw[this];simp only[aJ,hd];exact O _ _ _ kk _ _ h.VY (hs.block G N)
theorem b0z{T K E b c m x k v}(Q:o.op= .lookup T m x true)(Z:ev e m=some (.map (some b)))(hx:ev e x=some (str k))(hT:cx.P.underlying T=some (.map K E))(A:cx.P.underlying K=some .string)
 (hb:yR S b (.map #[ent k v] c)):CW cx o e S (.tuple #[v,.bool true]):=by
 intro a w G hs;have h:=hb w hs;have N:=fun b'=>run_checkKey (P:=cx.P) A b' k w;have O:aP .string (str k) (str k)=some true:=by
  simp only[aP,str,dA];show(k.toArray == k.toArray)=true;simp
 simp[execOp,Q,G.eval Z,G.eval hx,bW,run_underlying hT,run_underlying A,getObj,bU,h,N,aI,aT,O,ent]
theorem a9K{T K E b c m x k y v z}(A:y≠k)(Z:o.op= .lookup T m x true)(hm:ev e m=some (.map (some b)))(hx:ev e x=some (str y))(hT:cx.P.underlying T=some (.map K E))(G:cx.P.underlying K=some .string)(hz:∀w,(zeroValue E).run cx.P w= .ok z w)
 (hb:yR S b (.map #[ent k v] c)):CW cx o e S (.tuple #[z,.bool false]):=by
 intro a w N hs;have h:=hb w hs;have O:=fun b'=>run_checkKey (P:=cx.P) G b' y w;have Q:aP .string (str y) (str k)=some false:=by
  simp only[aP,str,dA];show(y.toArray == k.toArray)=false;simpa using A
 simp[execOp,Z,N.eval hm,N.eval hx,bW,run_underlying hT,run_underlying G,getObj,bU,h,O,aI,aT,Q,ent,hz]
end
def UZ (P:Program) (f:FuncId) (args:List Value) (u:FrameMode) (I:Heap) (H:HL) (post:FrameMode→Heap→HL→Prop):Prop:=
 Enters P f∧∀w,Ready I H w→CallsD P f args.toArray u w fun e u' w'=>(∃v,e= .returned v)∧∃I' H',St w (H.map (·.1)) I I' H' w'∧post u' I' H'
theorem yS.b1Q{P f fn c args I H}{A:Ending→Heap→HL→Prop}(hf:P.funcs[f]?=some fn)(O:fn.body=some c)(N:fn.name≠ "runtime.NumGoroutine")
 (hn:args.length≤fn.ntmps)
 (h:∀w0,Ready I H w0→Cj ⟨P,fn.ntmps,w0,H.map (·.1),I,[],none⟩ (bodyPostD P fn (RR w0 (H.map (·.1)) I A)) c (QL 0 args) I H):yS P f args I H A:=by
 refine⟨⟨fn,hf,N,by simp[O]⟩,fun w G=>?_⟩;refine calls_of_wp_defers hf O ?_;exact(h w G).wp rfl (eX args fn.ntmps hn) (cO w I H G.1 G.2.1 G.2.2.1 G.2.2.2)
section
variable {cx:Cx} {Q:Qt} {e:Env} {I:Heap} {H:HL} {o:Oper} {C:Ct}
theorem J.defer{O l f Z xs ts}{A G vs:List Value}(hg:o.guard=none)(ho:o.op= .defer ⟨.value Z,xs.toArray,ts⟩)(hd:o.dst=none)
 (hf:ev e Z=some (.func (.func f) A.toArray G.toArray))(hx:evs e xs=some vs)
 (k:J { cx with ds:=⟨.fn (.func f) G.toArray,(A++vs).toArray⟩::cx.ds } Q O l e I H)(a0:cx.rd=none:=by rfl):J cx Q O (o::l) e I H:=by
 intro a w N hs;refine wpListIn_plain hg fun K hK=>a6j (.inl a0) ?_;unfold aV;have hr:(execOp a.eval o).run cx.P w= .ok (.defer ⟨.fn (.func f) G.toArray,(A++vs).toArray⟩) w:=by
  have a1:xs.toArray.map a.eval=vs.toArray:=by rw[bT,N.YO hx]
  simp[execOp,ho,resolve,a1,N.eval hf,bD]
 rw[hr];simp only[aJ,hd];exact hK _ _ (k _ _ ⟨N.size,by simp[Act.put,N.defs],fun t v h=>N.get t v h⟩ hs)
def a4e (cx:Cx) (fn:Func) (post:Ending→Heap→HL→Prop) (e:Env) (I:Heap) (H:HL):Prop:=
 ∀a w,Has a cx.n e cx.ds→St cx.w0 cx.D cx.I0 I H w→∃v,(results fn a.tmps).run cx.P w= .ok v w∧RR cx.w0 cx.D cx.I0 post (.returned v) w
theorem a2r{P fn tmps}{R:Ending→World→Prop}{f G vs u w w0 D I0 H1 R1}{O:FrameMode→Heap→HL→Prop}(hu:u≠ .run)
 (hs:UZ P f (vs++G) u I H1 O)(A:St w0 D I0 I (H1++R1) w){ds}
 (k:∀u' Q N w',Le I Q→O u' Q N→St w0 D I0 Q (N++R1) w'→Leaves P fn tmps R ds (settle u') w'):
 Leaves P fn tmps R (⟨.fn (.func f) G.toArray,vs.toArray⟩::ds) u w:=by
 refine leaves_cons (f:=f) (args:=(vs++G).toArray) hu (by have h:=NI hs.1 (vs++G).toArray w;simpa[invoke]using h) ?_;have Z:Ready I H1 w:=⟨A.sub,fun p hp=>A.own p (aC _ hp),by
  have:=A.nodup;rw[aX,bC]at this;exact this.1,fun p hp=>A.dis p (aC _ hp)⟩
 refine(hs.2 w Z).mono ?_;rintro _ u' w' ⟨⟨v,rfl⟩,Q,N,a0,hp⟩;exact k u' Q N w' a0.le hp (A.call a0)
theorem Ej.leave{fn}{h:Ending→Heap→HL→Prop}{x u H1 R1 f Q vs}{A:FrameMode→Heap→HL→Prop}
 (hx:(x= .ret∧u= .returning)∨(x= .normal∧u= .returning)∨∃Z,x= .panic Z∧u= .panicking Z)(a0:cx.ds=[⟨.fn (.func f) Q.toArray,vs.toArray⟩])(hs:UZ cx.P f (vs++Q) u I H1 A)
 (k:∀O N G,Le I N→A O N G→settle O= .returning∧a4e cx fn h e N (G++R1)):
 Ej cx (bodyPostD cx.P fn (RR cx.w0 cx.D cx.I0 h)) x e I (H1++R1):=by
 intro a w ha a1;have key:u≠ .run→Leaves cx.P fn a.tmps (RR cx.w0 cx.D cx.I0 h) a.defers u w:=fun hu=>by
  rw[ha.defs,a0];refine a2r hu hs a1 fun O N G w' a2 hp a3=>?_;obtain⟨h1,h2⟩:=k O N G a2 hp;rw[h1];exact h2 a w' ha a3
 rcases hx with⟨rfl,rfl⟩|⟨rfl,rfl⟩|⟨Z,rfl,rfl⟩
 ·exact key sI
 ·exact key sI
 exact key sI
theorem a4e.c5h{fn}{h:Ending→Heap→HL→Prop}{H' t A G T Z T3 b N O n x y}{cs:List Value}{ty a0 a1 fr a2 a3}(hk:Keeps H' H)(hr:fn.results= #[.cell t T,.cell A Z,.cell G T3])
 (hv:eg e t=some (ptr b 0))(a4:eg e A=some (ptr N 0))(a5:eg e G=some (ptr O 0))(hb:yR (SS I H) b (.cells cs.toArray ty fr))(a6:yR (SS I H) N (.cells #[x] a0 a2))(a7:yR (SS I H) O (.cells #[y] a1 a3))
 (a8:∀w,(isAgg T).run cx.P w= .ok true w)(a9:∀w,(isAgg Z).run cx.P w= .ok false w)(aa:∀w,(isAgg T3).run cx.P w= .ok false w)(ab:∀w,(sizeOf T).run cx.P w= .ok n w)(hn:cs.length=n)(hp:h (.returned (.tuple #[.agg cs.toArray,x,y])) I H'):
 a4e cx fn h e I H:=by
 intro a w Q hs;have h1:=Q.get t _ hv;have h3:=Q.get A _ a4;have h4:=Q.get G _ a5;have hc:∀j v,cs[j]?=some v→w.cell? ((⟨b,0,none⟩:Addr).add j)=some v:=fun j v hj=>by
  rw[dB];exact cell_of_heap (hb w hs.ss) (by simpa using hj)
 have h2:=run_loadCells_list (P:=cx.P) (w:=w) ⟨b,0,none⟩ cs hc;rw[hn]at h2;have c2:w.cell? ⟨N,0,none⟩=some x:=cell_of_heap (cs:=[x]) (a6 w hs.ss) rfl;have c3:w.cell? ⟨O,0,none⟩=some y:=cell_of_heap (cs:=[y]) (a7 w hs.ss) rfl;refine⟨.tuple #[.agg cs.toArray,x,y],?_,I,H',hs.sublist hk,hp⟩;simp[results,hr,h1,h3,h4,asAddr,loadVar,a8,a9,aa,ab,h2,c2,c3]
theorem b2M{P id G N A t2}{Q:Exit→Act→List Frame→World→Prop}{a cs cs' w v ty}(a5:G.op= .call ⟨.builtin .recover,#[],ty⟩)(O:G.guard=none)(Z:G.dst=some A)(a6:N.op= .assign (.tmp A))(a0:N.guard=none)(a1:N.dst=some t2)
 (a7:A<a.tmps.size)(a4:recoverD cs=some (v,cs')∨(recoverD cs=none∧v= .nilIface∧cs'=cs))(k:Q .normal ((a.put (some A) v).put (some t2) v) cs' w):(Code.region id #[G,N] false).wpS P Q a cs w:=by
 refine wpS_region ?_;have hl:List.range (#[G,N]:Array Oper).size=[0,1]:=rfl;rw[hl];have a2:(execOp a.eval G).run P w= .ok .recover w:=by simp[execOp,a5,resolve,invoke,builtin]
 have he:(a.put (some A) v).eval (.tmp A)=v:=by simp[Act.eval,Act.put,a7]
 have a3:∀c,(execOp (a.put (some A) v).eval N).run P c= .ok (.value v) c:=fun c=>by simp only[execOp,a6,he,aO]
 rcases a4 with h|⟨h,rfl,rfl⟩
 ·simp[wpOpsS,dR,O,a0,a2,h,Z,a3,aJ,a1,k]
 simp[wpOpsS,dR,O,a0,a2,h,Z,a3,aJ,a1,k]
theorem UZ.recover{P f fn rest args H}{Z:FrameMode→Heap→HL→Prop}{id o1 o2 t1 t2 ty u} v G
 (hf:P.funcs[f]?=some fn)(hb:fn.body=some (.seq (.region id #[o1,o2] false) rest))(a0:fn.name≠ "runtime.NumGoroutine")(hn:args.length≤fn.ntmps)
 (a4:o1.op= .call ⟨.builtin .recover,#[],ty⟩)(a5:o1.guard=none)(a6:o1.dst=some t1)(a7:o2.op= .assign (.tmp t1))(a8:o2.guard=none)(a9:o2.dst=some t2)(a1:Nat.blt t1 fn.ntmps=true)(aa:Nat.blt t2 fn.ntmps=true)
 (a2:∀(A:Frame) (cs:List Frame),A.mode=u→recoverD (A::cs)=some (v,{ A with mode:=G }::cs)∨(recoverD (A::cs)=none∧v= .nilIface∧G=u))
 (h:∀w0,Ready I H w0→Cj ⟨P,fn.ntmps,w0,H.map (·.1),I,[],none⟩ (bodyPost P fn (RR w0 (H.map (·.1)) I fun e N H'=>(∃x,e= .returned x)∧Z G N H')) rest ((t2,v)::(t1,v)::QL 0 args) I H):
 UZ P f args u I H Z:=by
 refine⟨⟨fn,hf,a0,by simp[hb]⟩,fun w hw=>?_⟩;refine callsD_of_wpS hf hb fun A cs hc=>?_;have ab:=cO w I H hw.1 hw.2.1 hw.2.2.1 hw.2.2.2;have ha:=eX args fn.ntmps hn;have ac:=(ha.put (v:=v) a1).put (v:=v) aa;have ad:=ha.size;have a3:t1<fn.ntmps:=by simpa[Nat.blt_eq]using a1
 refine wpS_seq ?_;refine b2M a4 a5 a6 a7 a8 a9 (by rw[ad];exact a3) (v:=v) (cs':={ A with mode:=G }::cs) ?_ ?_
 ·rcases a2 A cs hc with h|⟨Q,h2,O⟩
  ·exact .inl h
  exact .inr ⟨Q,h2,by rw[O,←hc]⟩
 show rest.wpS P (bodyPostS P fn A cs _) _ ({ A with mode:=G }::cs) w;refine wpS_of_wp ?_;refine Code.wp_mono (fun x a w' hq=>?_) ((h w hw).wp rfl ac ab);cases x with
 |normal=>obtain⟨Q,y,h2,N,H',O,h4,h5⟩:=hq;exact⟨Q,G,rfl,y,h2,⟨y,rfl⟩,N,H',O,h5⟩
 |ret=>obtain⟨Q,y,h2,N,H',O,h4,h5⟩:=hq;exact⟨Q,G,rfl,y,h2,⟨y,rfl⟩,N,H',O,h5⟩
 |panic ch=>obtain⟨Q,N,H',O,⟨x,h4⟩,h5⟩:=hq;cases h4
 |exit id=>exact hq.elim
 |goto l=>exact hq.elim
 |outgrown=>obtain⟨N,H',O,⟨x,h4⟩,h5⟩:=hq;cases h4
theorem a6E{P w T t u ms}(h:P.underlying T=some (.interface ms)):(binOp .neq T (.iface t u) .nilIface).run P w= .ok (.bool true) w∧(binOp .neq T .nilIface .nilIface).run P w= .ok (.bool false) w
 ∧(binOp .eql T (.iface t u) .nilIface).run P w= .ok (.bool false) w∧(binOp .eql T .nilIface .nilIface).run P w= .ok (.bool true) w:=by
 have A:∀d:Nat,(aU (d+1) T (.iface t u) .nilIface).run P w= .ok false w:=fun d=>by simp[aU,run_underlying h]
 have G:∀d:Nat,(aU (d+1) T .nilIface .nilIface).run P w= .ok true w:=fun d=>by simp[aU,run_underlying h]
 simp only[binOp];simp[Op.equal,dZ,A 9999,G 9999]
theorem b5T{S:World→Prop}{x y T U t u ms}(A:o.op= .binOp .neq T x y U)(G:ev e x=some (.iface t u))(N:ev e y=some .nilIface)(O:cx.P.underlying T=some (.interface ms)):CW cx o e S (.bool true):=by
 intro a w h _;have Q:=(a6E (P:=cx.P) (w:=w) (t:=t) (u:=u) O).1;have hg:eqGuard .neq T x y (.iface t u) .nilIface=pure ():=rfl;simp[execOp,A,h.eval G,h.eval N,Q,hg]
theorem b6j{S:World→Prop}{x h T U ms}(A:o.op= .binOp .neq T x (.const h) U)(G:ev e x=some .nilIface)(N:h= .nilIface)(O:cx.P.underlying T=some (.interface ms)):CW cx o e S (.bool false):=by
 intro a w Q _;subst N;have Z:=(a6E (P:=cx.P) (w:=w) (t:=0) (u:=undef) O).2.1;have hg:eqGuard .neq T x (.const .nilIface) .nilIface .nilIface=pure ():=by unfold eqGuard;simp
 have he:a.eval (.const .nilIface)= .nilIface:=rfl;simp[execOp,A,Q.eval G,he,Z,hg]
theorem a5y{S:World→Prop}{x T U v d}(h:o.op= .typeAssert x T U true)(A:ev e x=some (.iface U v))(G:cx.P.underlying U=some d)(hn:(match d with| .interface _=>false|_=>true)=true):CW cx o e S (.tuple #[v,.bool true]):=by
 intro a w N _;have hr:(eF (.iface U v) T U true).run cx.P w= .ok (.tuple #[v,.bool true]) w:=by
  unfold eF;simp only[aF,run_underlying G,aB];cases d<;>simp_all
 simp[execOp,h,N.eval A,hr]
end
def Rj (cx:Cx) (Q:Qt) (c:Code) (n:Nat) (e:Env) (I:Heap) (H:HL):Prop:=∀a w,Has a cx.n e cx.ds→St cx.w0 cx.D cx.I0 I H w→Code.rounds cx.P c Q n a w
section
variable {cx:Cx} {Q:Qt} {e:Env} {I:Heap} {H:HL} {o:Oper} {C:Ct} {S:World→Prop}
theorem Cj.rounds n {c}(h:Rj cx Q c n e I H)(hr:cx.rd=none:=by rfl):Cj cx Q (.loop c) e I H:=Cj.of_wp hr fun a w A hs=>wp_loop_rounds n (h a w A hs)
theorem Rj.succ{c n}(h:Cj cx (Exit.then (Code.rounds cx.P c Q n) Q) c e I H)(hr:cx.rd=none:=by rfl):Rj cx Q c (n+1) e I H:=fun _ _ A hs=>h.wp hr A hs
theorem Ej.rounds{c n}(h:Rj cx Q c n e I H):Ej cx (Exit.then (Code.rounds cx.P c Q n) Q) .normal e I H:=fun a w A hs=>h a w A hs
theorem JU{x y T E b off n sz off' k i}(N:o.op= .indexAddr T x y)(O:ev e x=some (ptr b off))(Q:ev e y=some (.int k i))
 (Z:cx.P.underlying T=some (.array n E))(A:∀w,(sizeOf E).run cx.P w= .ok sz w)(h0:0≤i)(h1:i<n)(h:off+i.toNat*sz=off'):CW cx o e S (ptr b off'):=by
 intro a w G _;subst h;simp[execOp,N,G.eval O,G.eval Q,Instr.indexAt,Instr.sureAddr,asIntOf,run_underlying Z,h0,h1,A,dB]
theorem a3o{P w T E n c} p (h:P.underlying T=some (.slice E)):(binOp .neq T (.slice p n c) (.slice none 0 0)).run P w= .ok (.bool p.isSome) w∧(binOp .eql T (.slice p n c) (.slice none 0 0)).run P w= .ok (.bool p.isNone) w:=by
 have A:∀d:Nat,(aU (d+1) T (.slice p n c) (.slice none 0 0)).run P w= .ok p.isNone w:=fun d=>by cases p<;>simp[aU,run_underlying h]
 simp only[binOp];cases p<;>simp[Op.equal,dZ,A 9999]
theorem YU{x y T U E n c} p (A:o.op= .binOp .neq T x y U)(G:ev e x=some (.slice p n c))(N:ev e y=some (.slice none 0 0))(O:cx.P.underlying T=some (.slice E)):CW cx o e S (.bool p.isSome):=by
 intro a w h _;have Q:=(a3o (P:=cx.P) (w:=w) (n:=n) (c:=c) p O).1;have hg:eqGuard .neq T x y (.slice p n c) (.slice none 0 0)=pure ():=rfl;simp[execOp,A,h.eval G,h.eval N,Q,hg]
theorem a5l{x y T U E n c} p (A:o.op= .binOp .eql T x y U)(G:ev e x=some (.slice p n c))(N:ev e y=some (.slice none 0 0))(O:cx.P.underlying T=some (.slice E)):CW cx o e S (.bool p.isNone):=by
 intro a w h _;have Q:=(a3o (P:=cx.P) (w:=w) (n:=n) (c:=c) p O).2;have hg:eqGuard .eql T x y (.slice p n c) (.slice none 0 0)=pure ():=rfl;simp[execOp,A,h.eval G,h.eval N,Q,hg]
theorem made1 z c:madeCells #[z] c=(bM c z).toArray:=by
 apply cZ
 intro i;unfold madeCells
 by_cases h:i<c
 ·simp[h,Nat.mod_one]
 simp[h]
theorem a3j{T E d by1 n c:Nat}{x y kl N z}(ho:o.op= .makeSlice T x y)(hd:o.dst=some d)(hn:aK d cx.n=true)(hx:ev e x=some (.int kl (n:Int)))(hy:ev e y=some (.int N (c:Int)))
 (hu:cx.P.underlying T=some (.slice E))(O:(cx.P.info? E).map (fun i=>(i.bytes,i.size,i.zero))=some (by1,1,some z))(Z:z.cells= #[z])(a1:n≤c)(hb:by1*c≤281474976710656)(a2:c≤9223372036854775807)
 (k:∀b,cx.w0.heap.size≤b→C ((d,.slice (some ⟨b,0,none⟩) n c)::e) I ((b,yZ E (bM c z))::H)):GR cx Q o e I H C:=by
 intro K hK a w G hs;unfold aV;obtain⟨i,hi,A⟩:=bP.1 O;simp only[eY]at A;obtain⟨h1,h2,h3⟩:=A;have a0:(i.bytes:Int)*(c:Int)≤281474976710656:=by
  have h:((by1*c:Nat):Int)≤281474976710656:=oM;rw[h1]
  rwa [Int.natCast_mul]at h
 have hr:=run_make (P:=cx.P) w T E i z hu hi h3 kl N n c oM oM a0 oM;have:(execOp a.eval o).run cx.P w= .ok (.value (.slice (some ⟨w.heap.size,0,none⟩) n c)) (w.alloc (yZ E (bM c z))):=by
  simp[execOp,ho,G.eval hx,G.eval hy,hr,h2,Z,made1,yZ]
 rw[this];simp only[aJ,hd];exact hK _ _ _ (k _ hs.size) _ _ (G.put hn) (hs.alloc _)
theorem b1F{x y}{T E b off n c sz j:Nat}{kl}(N:o.op= .slice T x (some y) none none)(O:ev e x=some (.slice (some ⟨b,off,none⟩) n c))(Q:ev e y=some (.int kl (j:Int)))(Z:cx.P.underlying T=some (.slice E))(h:∀w,(sizeOf E).run cx.P w= .ok sz w)(hj:j≤n)(hc:j<c):
 CW cx o e S (.slice (some ⟨b,off+j*sz,none⟩) (n-j) (c-j)):=by
 intro a w A _;have G:¬c=j:=oM;have h1:(j:Int)≤n:=oM;simp[execOp,N,A.eval O,A.eval Q,Instr.sliceAt,Instr.slice,run_underlying Z,Instr.sliceBounds,run_sliceBound,h1,h,G,dB]
theorem c3M{x y T U E d b off n c m O} i {cs cs' ys H'}(ho:o.op= .call ⟨.builtin .copy,#[x,y],#[T,U]⟩)(hd:o.dst=some d)(hn:aK d cx.n=true)(hx:ev e x=some (.slice (some ⟨b,off,none⟩) n c))(hy:ev e y=some O)
 (A:cx.P.underlying T=some (.slice E))(Z:∀w,(sizeOf E).run cx.P w= .ok 1 w)(a0:Src cx.P I H 1 m O ys)(a1:m≤n)(hH:H[i]?=some (b,yZ E cs))(h:EW cs off ys cs')(a2:DZ H i (b,yZ E cs') H')
 (k:C ((d,i64 m)::e) I H'):GR cx Q o e I H C:=by
 intro K hK a w G hs;unfold aV;obtain⟨_,a3,a4,a5⟩:=a0;have hb:=hs.own _ (aG hH);have a6:=MZ (P:=cx.P) (t:=E) ys 0 w cs hb (.inl rfl) h.1 (fun u A=>(List.all_eq_true.1 a3) u A) cs' h;have N:Nat.min m n=m:=Nat.min_eq_left a1;have:(execOp a.eval o).run cx.P w= .ok (.value (i64 m)) (aH w b (yZ E cs')):=by
  simp[execOp,ho,resolve,invoke,builtin,G.eval hx,G.eval hy,Builtin.copy_,run_underlying A,a4 w hs.ss,N,Z,a5 w hs.ss,a6,goInt,yZ]
 rw[this];simp only[aJ,hd];exact hK _ _ _ k _ _ (G.put hn) (hs.block hH a2)
theorem b8U{H1 R d f T te fo nm xs ts vs q}{G:Ending→Heap→HL→Prop}
 (ho:o.op= .call ⟨.invoke fo nm,xs.toArray,ts⟩)(hd:o.dst=some d)(hn:aK d cx.n=true)(hf:ev e fo=some (.iface T (.pointer q)))(hx:evs e xs=some vs)
 (hm:((cx.P.info? T).bind fun i=>i.methods.find? (·.name == nm)).map (fun m=>(m.path.isEmpty,m.func))=some (true,some (f,true)))(hu:cx.P.underlying T=some (.pointer te))
 (hs:yS cx.P f (.pointer q::vs) I H1 G)
 (k:∀v A h,Le I A→G (.returned v) A h→C ((d,v)::e) A (h++R))
 (kp:∀ch A h,Le I A→G (.panicked ch) A h→Ej cx Q (.panic ch) e A (h++R))
 (ko:∀A h,¬G .outgrown A h):GR cx Q o e I (H1++R) C:=by
 intro K hK a w ha O;unfold aV;have hr:(execOp a.eval o).run cx.P w= .ok (.enter f (.pointer q::vs).toArray) w:=by
  have a6:xs.toArray.map a.eval=vs.toArray:=by rw[bT,ha.YO hx]
  obtain⟨m,a7,a3⟩:=bP.1 hm;obtain⟨i,hi,a8⟩:=Option.bind_eq_some_iff.1 a7;simp only[eY]at a3;obtain⟨N,a9⟩:=a3;have aa:m.path.toList=[]:=by
   have:m.path= #[]:=by simpa using N
   rw[this]
  have a1:=NI hs.1 (.pointer q::vs).toArray w;have a2:∀n:Nat,(method (n+1) T (.pointer q) nm).run cx.P w= .ok (f,.pointer q) w:=fun n=>by
   simp[method,typeInfo,hi,a8,aa,follow,a9,receiverAt,run_underlying hu,Place.get]
  have ab:∀n:Nat,(method (n+Made.depth) T (.pointer q) nm).run cx.P w= .ok (f,.pointer q) w:=fun n=>a2 (n+(Made.depth-1));simp only[execOp,ho,resolve,a6,ha.eval hf,invoke,aF,aO,aB,callMethod];simp[ab,a1]
 rw[hr];simp only[aJ];have Z:Ready I H1 w:=⟨O.sub,fun p N=>O.own p (aC _ N),by
  have:=O.nodup;rw[aX,bC]at this;exact this.1,fun p N=>O.dis p (aC _ N)⟩
 refine(hs.2 w Z).mono ?_;rintro en w' ⟨A,h,a4,N⟩;have a5:=a4.le;have a0:=O.call a4;cases en with
 |returned v=>
  rw[hd];exact hK _ _ _ (k v A h a5 N) _ _ (ha.put hn) a0
 |panicked ch=>exact kp ch A h a5 N _ _ ha a0
 |outgrown=>exact(ko _ _ N).elim
end
theorem St.set1{w I b T off cs v}(hr:Ready I [(b,yZ T cs)] w):St w [b] I I [(b,yZ T (cs.set off v))] (w.setCell ⟨b,off,none⟩ v):=by
 have A:w.heap[b]?=some (yZ T cs):=hr.2.1 (b,yZ T cs) (.head _);have h:St w [b] I I [(b,yZ T cs)] w:=cO w I [(b,yZ T cs)] hr.1 hr.2.1 hr.2.2.1 hr.2.2.2;rw[a3f (fr:=(0,0)) A];exact h.block (i:=0) rfl dN
theorem yS.a6t{P f args I b T off cs x y v}(A:Enters P f)(G:cs[off]?=some x)
 (h:∀w,w.cell? ⟨b,off,none⟩=some x→w.frozen? ⟨b,off,none⟩=false→Calls P f args.toArray w fun e w'=>e= .returned v∧w'=w.setCell ⟨b,off,none⟩ y):
 yS P f args I [(b,yZ T cs)] (fun e Q H'=>e= .returned v∧H'=[(b,yZ T (cs.set off y))]):=
 ⟨A,fun w hr=>(h w (cell_of_heap (hr.2.1 _ (.head _)) G) (by have:=hr.2.1 _ (.head _);simp only at this;simp[fA,this,yZ])).mono fun e w' ⟨N,O⟩=>⟨I,_,O▸St.set1 hr,N,rfl⟩⟩
theorem yS.c3E{P f args I b T off cs x v}(A:Enters P f)(G:cs[off]?=some x)
 (h:∀w,w.cell? ⟨b,off,none⟩=some x→Calls P f args.toArray w fun e w'=>e= .returned v∧w'=w):
 yS P f args I [(b,yZ T cs)] (fun e Q H'=>e= .returned v∧H'=[(b,yZ T cs)]):=
 ⟨A,fun w hr=>(h w (cell_of_heap (hr.2.1 _ (.head _)) G)).mono fun _ _ ⟨N,O⟩=>⟨I,_,O▸cO w I _ hr.1 hr.2.1 hr.2.2.1 hr.2.2.2,N,rfl⟩⟩
theorem UZ.a6t{P f args u I b T off cs x y v}(N:Enters P f)(O:cs[off]?=some x)
 (h:∀w,w.cell? ⟨b,off,none⟩=some x→w.frozen? ⟨b,off,none⟩=false→CallsD P f args.toArray u w fun e G w'=>G=u∧(e= .returned v∧(w'=w.setCell ⟨b,off,none⟩ y∨w'=w.drew.setCell ⟨b,off,none⟩ y))):
 UZ P f args u I [(b,yZ T cs)] (fun G a0 H'=>G=u∧H'=[(b,yZ T (cs.set off y))]):=
 ⟨N,fun w hr=>(h w (cell_of_heap (hr.2.1 _ (.head _)) O) (by have:=hr.2.1 _ (.head _);simp only at this;simp[fA,this,yZ])).mono fun e G w' ⟨Q,Z,A⟩=>⟨⟨v,Z⟩,I,_,by
  have hs:=St.set1 (off:=off) (v:=y) hr;rcases A with A|A
  ·rw[A];exact hs
  rw[A];exact hs.drew,Q,rfl⟩⟩
def tab (f:Nat→Value) (tr:Value):List Value:=(List.range 256).map f++[tr]
theorem OT f tr:(tab f tr).length=257:=by simp[tab]
theorem SX f tr {i}(h:i<256):(tab f tr)[i]?=some (f i):=by
 unfold tab;rw[bI (by simpa using h)];simp[h]
theorem a6I f tr:(tab f tr)[256]?=some tr:=by
 unfold tab;rw[bH sI];simp
theorem c2h f tr v {i}(h:i<256):(tab f tr).set i v=tab (fun j=>if j=i then v else f j) tr:=by
 apply List.ext_getElem?
 intro j;rw[dX];rcases dU j 256 with G|G
 ·rw[SX _ _ G,SX _ _ G]
  by_cases A:i=j
  ·subst A;simp[OT];omega
  have:¬j=i:=fun N=>A N.symm;simp[A,this]
 have A:¬i=j:=oM;simp only[A,if_false];unfold tab;rw[bH (by simpa using G),bH (by simpa using G)];simp
theorem b8j f tr v:(tab f tr).set 256 v=tab f v:=by
 unfold tab;rw[dP _ _ sI];simp
theorem c3V{f tr}(hf:∀i,(f i).oneCell'=true)(h:tr.oneCell'=true):(tab f tr).all eU=true:=by
 unfold tab;simp[hf,h]
theorem c2b f a v:EW (tab f a) 256 [v] (tab f v):=by
 refine⟨by simp[OT],?_⟩;unfold tab;rw[bY sI,dJ sI,bQ sI];simp
theorem EW.all{l xs:List Value}(h:l.length=xs.length):EW l 0 xs xs:=⟨by simp[h],by simp[←h]⟩
theorem a9h n g:(gV n g).cells= #[gV n g]:=by cases g<;>rfl
theorem b3Z n g:(gV n g).oneCell'=true:=by cases g<;>rfl
def a4w (I:Heap) (l:List UInt8) (v:Value):Prop:=∃b c sp fr,v= .slice (some ⟨b,0,none⟩) l.length c∧I b=some (.cells (EY l++sp).toArray 5 fr)
theorem a4w.mono{I A l v}(h:a4w I l v)(G:Le I A):a4w A l v:=let ⟨b,c,sp,fr,N,O⟩:=h;⟨b,c,sp,fr,N,G _ _ O⟩
section
variable {cx:Cx} {Q:Qt} {e:Env} {I:Heap} {H:HL}
theorem Ej.c4u{fn}{h:Ending→Heap→HL→Prop}{H1 H2 H3 R1 f1 f2 G Q N Z}(a1:cx.ds=[⟨.fn (.func f1) G.toArray,Q.toArray⟩,⟨.fn (.func f2) N.toArray,Z.toArray⟩])
 (h1:UZ cx.P f1 (Q++G) .returning I H1 fun O a7 H'=>O= .returning∧H'=H2)(h2:∀A,UZ cx.P f2 (Z++N) .returning A H2 fun O a6 H'=>O= .returning∧H'=H3)
 (k:∀A,Le I A→a4e cx fn h e A (H3++R1)):Ej cx (bodyPostD cx.P fn (RR cx.w0 cx.D cx.I0 h)) .normal e I (H1++R1):=by
 intro a w ha a2;show Leaves cx.P fn a.tmps (RR cx.w0 cx.D cx.I0 h) a.defers .returning w;rw[ha.defs,a1];refine a2r sI h1 a2 ?_;rintro O A _ w' a3 ⟨rfl,rfl⟩ a4;refine a2r (by simp[]) (h2 A) a4 ?_;rintro _ I2 _ w2 a0 ⟨rfl,rfl⟩ a5;exact k I2 (a3.trans a0) a w2 ha a5
theorem a4e.none{fn}{h:Ending→Heap→HL→Prop}(hr:fn.results= #[])(A:h (.returned (.tuple #[])) I H):a4e cx fn h e I H:=
 fun _ _ _ hs=>⟨.tuple #[],results_none hr _ _ _,I,H,hs,A⟩
end
end Go.Sx
namespace Go.Proofs.YtdjkhllhakhjbaaGreatDoor.Sync
open _root_.Go.Proofs.Tryz
open Go Go.Sx
theorem disable w:(callFunc 314 #[]).run aN w= .ok (.value (.tuple #[])) w:=run_call_mark0 func314 kR kR kR .disable kR w
theorem enable w:(callFunc 316 #[]).run aN w= .ok (.value (.tuple #[])) w:=run_call_mark0 func316 kR kR kR .enable kR w
theorem acquire a w:(callFunc 317 #[.pointer (some a)]).run aN w= .ok (.value (.tuple #[])) w:=run_call_marked func317 kR kR kR .acquire kR a w
theorem releaseMerge a w:(callFunc 319 #[.pointer (some a)]).run aN w= .ok (.value (.tuple #[])) w:=run_call_marked func319 kR kR kR .releaseMerge kR a w
theorem store_deferred a x u w (O:w.cell? a=some x)(hz:w.frozen? a=false):
 CallsD aN 277 #[.pointer (some a),.bool true] u w fun e G w'=>G=u∧(e= .returned (.tuple #[])∧w'=w.drew.setCell a (.int .u32 1)):=by
 have h:w.drew.cell? a=some x:=by go_simp
 have A:w.drew.frozen? a=false:=by go_simp
 have N:=run_call_store (P:=aN) func302 kR kR kR kR (k:= .u32) (y:=1) h A
 go_enter_d func277,Tryz.ntmps277
 go_wp2
 go_region_calls
 all_goals (go_end0;exact rT)
theorem unlock_deferred a u w (h:w.cell? a=some (.int .i32 1))(hz:w.frozen? a=false):
 CallsD aN 276 #[.pointer (some a)] u w fun e A w'=>A=u∧(e= .returned (.tuple #[])∧w'=w.setCell a (.int .i32 0)):=by
 have hd:=disable;have O:=enable;have hr:=releaseMerge;have G:=run_call_add (P:=aN) func320 kR kR kR .i32 kR (y:= -1) (s:=0) h hz (by simp[go_sem];rfl);have N:=run_convert_to_unsafe (P:=aN) (src:=404) (dst:=330) underlying404 a9O kR h
 go_enter_d func276,Tryz.ntmps276
 go_wp2
 go_end0
 go_wp2
 go_end0
 exact rT
theorem lock_free a w (h:w.cell? a=some (.int .i32 0))(hz:w.frozen? a=false):
 Calls aN 275 #[.pointer (some a)] w fun e w'=>e= .returned (.tuple #[])∧w'=w.setCell a (.int .i32 1):=by
 have hd:=disable;have O:=enable;have Q:=acquire;have G:=run_call_cas_hit (P:=aN) func315 kR kR kR .i32 kR (y:=1) h hz;have A:(w.setCell a (.int .i32 1)).cell? a=some (.int .i32 1):=World.cell?_setCell_same w a _ h;have N:=run_convert_to_unsafe (P:=aN) (src:=404) (dst:=330) underlying404 a9O kR A
 go_enter func275,Tryz.ntmps275
 go_wp2
 first|go_end0|(simp only[Exit.inBlock,Exit.then];refine bodyPost_ret (results_none rfl _ _ _) rfl ?_)|refine bodyPost_ret (results_none rfl _ _ _) rfl ?_
 go_wp2
 go_end0
 exact rT
theorem b6P a x w (h:w.cell? a=some (.int .u32 x)):
 Calls aN 231 #[.pointer (some a)] w fun e w'=>e= .returned (.bool (x != 0))∧w'=w:=by
 have A:=run_call_load (P:=aN) func274 kR kR kR .u32 kR h
 go_enter func231,Tryz.ntmps231
 go_wp2
 go_ret
 exact rT
end Go.Proofs.YtdjkhllhakhjbaaGreatDoor.Sync
namespace Go.Sx
open Go
def YC (P:Program) (l:Nat) (args:List Value) (I:Heap) (H:HL) (post:Ending→Heap→HL→Prop):Prop:=
 ∀w,Ready I H w→∃f tmps assign body,(Instr.yield l args.toArray).run P w= .ok (.round l f tmps assign body) w∧RoundIn aY 0 P l f tmps assign body w (RR w (H.map (·.1)) I post)
theorem b2V{rd n P l f tmps assign body w}{R:Ending→World→Prop}(h:RoundIn aY n P l f tmps assign body w R):RoundIn { aY with round:=rd } n P l f tmps assign body w R:=by
 cases rd with
 |none=>exact h
 |some l=>exact h
section
variable {cx:Cx} {Q:Qt} {o:Oper} {e:Env} {I:Heap}
theorem b1H{H1 R d l fo xs ts vs}{N:Ending→Heap→HL→Prop}{K:Act→World→Prop}
 (ho:o.op= .call ⟨.value fo,xs.toArray,ts⟩)(hd:o.dst=some d)(hn:aK d cx.n=true)(hf:ev e fo=some (.func (.yield l) #[] #[]))(hx:evs e xs=some vs)(hs:YC cx.P l vs I H1 N)
 (k:∀v O A,Le I O→N (.returned v) O A→∀a w,Has a cx.n ((d,v)::e) cx.ds→St cx.w0 cx.D cx.I0 O (R++A) w→K a w)
 (kp:∀ch O A,¬N (.panicked ch) O A)(ko:∀O A,¬N .outgrown O A){a w}(ha:Has a cx.n e cx.ds)(G:St cx.w0 cx.D cx.I0 I (R++H1) w):o.wpIn cx.F 0 cx.P a w K Q:=by
 replace G:=G.perm (H':=H1++R) dQ;have a0:Ready I H1 w:=⟨G.sub,fun p Z=>G.own p (aC _ Z),by
  have:=G.nodup;rw[aX,bC]at this;exact this.1,fun p Z=>G.dis p (aC _ Z)⟩
 obtain⟨f,tmps,assign,body,h1,h2⟩:=hs w a0;have hr:(execOp a.eval o).run cx.P w= .ok (.round l f tmps assign body) w:=by
  have a3:xs.toArray.map a.eval=vs.toArray:=by
   rw[bT,ha.YO hx]
  simp only[execOp,ho,resolve,a3,ha.eval hf,bD,invoke,aF,aO,aB,Array.empty_append,h1]
 refine⟨fun _ _=>trivial,?_⟩;have he:o.semAt cx.F.round a.eval=execOp a.eval o:=Oper.semAt_eq _ _ _ (fun c hc=>by rw[ho]at hc;cases hc);rw[he,hr];refine⟨fun h=>by simp[Cx.F,aY]at h,?_⟩;refine RoundIn.mono (b2V (rd:=cx.rd) h2) ?_;rintro en w' ⟨O,A,a1,Z⟩;have a4:=a1.le;have a2:=(G.call a1).perm (H':=R++A) dQ;cases en with
 |returned v=>
  rw[hd];exact k v O A a4 Z _ _ (ha.put hn) a2
 |panicked ch=>exact(kp _ _ _ Z).elim
 |outgrown=>exact(ko _ _ Z).elim
theorem J.yield{O r H1} R {d l fo xs ts vs}{A:Ending→Heap→HL→Prop}
 (hg:o.guard=none)(ho:o.op= .call ⟨.value fo,xs.toArray,ts⟩)(hd:o.dst=some d)(hn:aK d cx.n=true)(hf:ev e fo=some (.func (.yield l) #[] #[]))(hx:evs e xs=some vs)(hs:YC cx.P l vs I H1 A)
 (k:∀v G h,Le I G→A (.returned v) G h→J cx Q O r ((d,v)::e) G (R++h))
 (kp:∀ch G h,¬A (.panicked ch) G h)(ko:∀G h,¬A .outgrown G h):J cx Q O (o::r) e I (R++H1):=
 fun _ _ Z N=>wpListIn_plain hg fun _ hK=>b1H ho hd hn hf hx hs (fun v G h a0 hp a w Z N=>hK a w (k v G h a0 hp a w Z N)) kp ko Z N
theorem J.c4S{N r H1} R {d l fo xs ts vs}{A:Ending→Heap→HL→Prop} j dj O b
 (hg:o.guard=some (j,O))(a0:(N[j]?).bind (·.dst)=some dj)(hv:eg e dj=some (.bool b))(hb:b=O)(ho:o.op= .call ⟨.value fo,xs.toArray,ts⟩)(hd:o.dst=some d)(hn:aK d cx.n=true)(hf:ev e fo=some (.func (.yield l) #[] #[]))(hx:evs e xs=some vs)(hs:YC cx.P l vs I H1 A)
 (k:∀v G h,Le I G→A (.returned v) G h→J cx Q N r ((d,v)::e) G (R++h))
 (kp:∀ch G h,¬A (.panicked ch) G h)(ko:∀G h,¬A .outgrown G h):J cx Q N (o::r) e I (R++H1):=by
 intro a w ha Z;refine wpListIn_step fun K hK=>?_;rw[zG (by simp[dR,hg,SY ha a0 hv,hb])];exact b1H ho hd hn hf hx hs (fun v G h a1 hp a w ha Z=>hK a w (k v G h a1 hp a w ha Z)) kp ko ha Z
end
def YS (P:Program) (l:Nat) (xs:List (List Value)) (Y:Nat→Heap→HL→Prop) (Z:Heap→HL→Prop):Prop:=
 ∀k args,xs[k]?=some args→∀I H,Y k I H→YC P l args I H (fun e I' H'=>(e= .returned (.bool true)∧Y (k+1) I' H')∨(e= .returned (.bool false)∧Z I' H'))
def Gen (P:Program) (f:FuncId) (fst cap:List Value) (I:Heap) (xs:List (List Value)):Prop:=
 Enters P f∧∀(l:Nat) (Y:Nat→Heap→HL→Prop) (Z:Heap→HL→Prop),(∀k I1 I2 H,Le I1 I2→Y k I1 H→Y k I2 H)→YS P l xs Y Z→
  ∀H,Y 0 I H→yS P f (fst++[.func (.yield l) #[] #[]]++cap) I H (fun e I' H'=>e= .returned (.tuple #[])∧(Y xs.length I' H'∨Z I' H'))
def a6D:List Tmp→List Value→Env→Env
 |t::ps,v::vs,e=>a6D ps vs ((t,v)::e)
 |_,_,e=>e
theorem Has.zip{n}:∀(ps:List Tmp) (vs:List Value) (e:Env) (tmps:Array Value),(∀t∈ps,aK t n=true)→Has ⟨tmps,[]⟩ n e []→Has ⟨(ps.zip vs).foldl (fun tmps (x:Tmp×Value)=>tmps.setIfInBounds x.1 x.2) tmps,[]⟩ n (a6D ps vs e) []
 |[],_,_,_,_,h=>h
 |_::_,[],_,_,_,h=>h
 |t::ps,_v::vs,_e,tmps,hn,h=>Has.zip ps vs _ _ (fun u A=>hn u (.tail _ A)) (Has.put (a:=⟨tmps,[]⟩) h (hn t (.head _)))
def c0q (cx:Cx) (l:Nat) (r:Loop) (body:Code) (Q:Qt):Qt
 | .normal,a,w=>∃e I H,Has a cx.n e cx.ds∧St cx.w0 cx.D cx.I0 I ((l,.loop r)::H) w∧Cj cx Q body e I ((l,.loop { r with state:= .busy })::H)
 |_,_,_=>False
def RdQ (cx:Cx) (l:Nat) (r:Loop) (Y:Heap→HL→Prop) (Z:Code→Heap→HL→Prop):Qt
 | .normal,_,w=>∃I H,St cx.w0 cx.D cx.I0 I ((l,.loop { r with state:= .busy })::H) w∧Y I H
 | .ret,_,w=>∃I H,St cx.w0 cx.D cx.I0 I ((l,.loop { r with state:= .busy })::H) w∧Z .ret I H
 | .exit id,_,w=>∃I H,St cx.w0 cx.D cx.I0 I ((l,.loop { r with state:= .busy })::H) w∧Z (.exit id) I H
 |_,_,_=>False
section
variable {cx:Cx} {Q:Qt} {e:Env} {I:Heap} {H:HL} {l:Nat} {r:Loop} {Y:Heap→HL→Prop} {Z:Code→Heap→HL→Prop}
theorem Ej.asg{body}(k:Cj cx Q body e I ((l,.loop { r with state:= .busy })::H)):Ej cx (c0q cx l r body Q) .normal e I ((l,.loop r)::H):=
 fun _ _ h hs=>⟨e,I,H,h,hs,k⟩
theorem Ej.a2y(h:Y I H):Ej cx (RdQ cx l r Y Z) .normal e I ((l,.loop { r with state:= .busy })::H):=fun _ _ _ hs=>⟨I,H,hs,h⟩
theorem Ej.c4v{id}(h:Z (.exit id) I H):Ej cx (RdQ cx l r Y Z) (.exit id) e I ((l,.loop { r with state:= .busy })::H):=fun _ _ _ hs=>⟨I,H,hs,h⟩
abbrev ND (b:Nat):Deferred:={ target:= .collected b,args:= #[] }
theorem Cj.rangeFunc{g ps assign body f a5 a6 H1 R} xs (Y:Nat→Heap→HL→Prop)(Z:Code→Heap→HL→Prop)
 (hr:cx.rd=none)(ai:∀t∈ps,Nat.blt t cx.n=true)(af:∀args∈xs,args.length=ps.length)(hg:ev e g=some (.func (.func f) a5.toArray a6.toArray))(a9:Gen cx.P f a5 a6 I xs)
 (ac:∀k N I2 H,Le N I2→Y k N H→Y k I2 H)(h0:Y 0 I H1)
 (round:∀l r k args N G w0,xs[k]?=some args→Le I N→Y k N G→
  Cj ⟨cx.P,cx.n,w0,l::G.map (·.1),N,[],some l⟩ (c0q ⟨cx.P,cx.n,w0,l::G.map (·.1),N,[],some l⟩ l r body (RdQ ⟨cx.P,cx.n,w0,l::G.map (·.1),N,[],some l⟩ l r (Y (k+1)) Z)) assign (a6D ps args e) N ((l,.loop r)::G))
 (done:∀b I' H',Le I I'→Y xs.length I' H'→Ej { cx with ds:=ND b::cx.ds } Q .normal e I' ((b,.deferred (some []))::(H'++R)))
 (left:∀b c I' H',Le I I'→Z c I' H'→Cj { cx with ds:=ND b::cx.ds } Q c e I' ((b,.deferred (some []))::(H'++R))):
 Cj cx Q (.rangeFunc g ps.toArray assign body) e I (H1++R):=by
 intro a w ha aj;rw[Cx.wide hr];refine wpIn_rangeFunc fun fn _=>?_;obtain⟨r,O⟩:∃r:Loop,r={ state:= .ready,pending:=none,fn:=fn,tmps:=a.tmps,params:=ps.toArray,assign:=assign,body:=body,defers:=w.heap.size }:=⟨_,rfl⟩;obtain⟨l,hl⟩:∃l,l=w.heap.size+1:=⟨_,rfl⟩;have hst1:St cx.w0 cx.D cx.I0 I (((l,.loop r)::H1)++((w.heap.size,.deferred (some []))::R)) ((w.alloc (.deferred (some []))).alloc (.loop r)):=by
  have h1:=(aj.alloc (.deferred (some []))).alloc (.loop r);have h2:(w.heap.push (.deferred (some []))).size=l:=by rw[hl,Array.size_push]
  rw[h2]at h1;refine h1.perm ?_;show((l,Obj.loop r)::(H1++(w.heap.size,Obj.deferred (some []))::R)).Perm _;exact List.Perm.cons _ dD
 let Y':Nat→Heap→HL→Prop:=fun k N H=>Le I N∧∃G,H=(l,.loop r)::G∧Y k N G
 let Z':Heap→HL→Prop:=fun N H=>∃c G,H=(l,.loop { r with state:= .done,pending:=some c })::G∧Z c N G
 have ak:YS cx.P l xs Y' Z':=by
  rintro k args hk N H ⟨a1,G,rfl,hY⟩ w1 A;have al:w1.heap[l]?=some (.loop r):=A.2.1 _ (.head _);have am:=af args (aG hk);refine⟨r.fn,_,r.assign,r.body,run_yield al (by rw[O];simp[am]),roundIn_of_wpIn trivial ?_⟩;have hz:(r.params.zip args.toArray).foldl (fun tmps (x:Tmp×Value)=>tmps.setIfInBounds x.1 x.2) r.tmps=(ps.zip args).foldl (fun tmps (x:Tmp×Value)=>tmps.setIfInBounds x.1 x.2) a.tmps:=by
   rw[O];simp[List.zip_toArray]
  have aa:=Has.zip (n:=cx.n) ps args e a.tmps ai ⟨ha.size,rfl,ha.get⟩;rw[←hz]at aa;have hc:=round l r k args N G w1 hk a1 hY _ _ aa (cO w1 N ((l,.loop r)::G) A.1 A.2.1 A.2.2.1 A.2.2.2);have e1:r.assign=assign:=by rw[O]
  have e2:r.body=body:=by rw[O]
  rw[e1,e2];refine wpIn_mono hc ?_;rintro x a2 _ hq;cases x with
  |normal=>
   obtain⟨e2,I2,_,a7,ad,hb⟩:=hq;refine⟨_,run_beginRound (ad.own _ (.head _)) (by rw[O]),?_⟩;have an:=ad.block (i:=0) (o':= .loop { r with state:= .busy }) rfl dN;refine wpIn_mono (hb a2 _ a7 an) ?_;rintro x _ _ a3;cases x with
   |normal=>
    obtain⟨I3,H3,a0,ao⟩:=a3;refine⟨_,_,run_endRound none (a0.own _ (.head _)),I3,(l,.loop r)::H3,?_,.inl ⟨rfl,a1.trans a0.le,H3,rfl,ao⟩⟩;have:=a0.block (i:=0) (o':= .loop r) rfl dN;rw[O]at this ⊢;exact this
   |ret=>
    obtain⟨I3,H3,a0,ab⟩:=a3;exact⟨_,_,run_endRound (some .ret) (a0.own _ (.head _)),I3,_,a0.block (i:=0) rfl dN,.inr ⟨rfl,_,H3,rfl,ab⟩⟩
   |exit id=>
    obtain⟨I3,H3,a0,ab⟩:=a3;exact⟨_,_,run_endRound (some (.exit id)) (a0.own _ (.head _)),I3,_,a0.block (i:=0) rfl dN,.inr ⟨rfl,_,H3,rfl,ab⟩⟩
   |goto t=>exact a3.elim
   |panic ch=>exact a3.elim
   |outgrown=>exact a3.elim
  |exit id=>exact hq.elim
  |goto t=>exact hq.elim
  |ret=>exact hq.elim
  |panic ch=>exact hq.elim
  |outgrown=>exact hq.elim
 have ag:=a9.2 l Y' Z' (fun k N I2 H a1 ⟨h1,G,h2,h3⟩=>⟨h1.trans a1,G,h2,ac _ _ _ _ a1 h3⟩) ak ((l,.loop r)::H1) ⟨Le.refl _,H1,rfl,h0⟩;have A:Ready I ((l,.loop r)::H1) ((w.alloc (.deferred (some []))).alloc (.loop r)):=⟨hst1.sub,fun p hp=>hst1.own p (aC _ hp),by
  have:=hst1.nodup;rw[aX,bC]at this;exact this.1,fun p hp=>hst1.dis p (aC _ hp)⟩
 have ah:(Instr.enterLoop fn a.tmps ps.toArray assign body none).run cx.P w= .ok (l,[ND w.heap.size]) ((w.alloc (.deferred (some []))).alloc (.loop r)):=by
  rw[hl,O];exact run_enterLoop_outer fn a.tmps ps.toArray assign body
 refine⟨l,[ND w.heap.size],(w.alloc (.deferred (some []))).alloc (.loop r),⟨.fn (.func f) a6.toArray,(a5++[eP (.yield l) #[] #[]]).toArray⟩,(w.alloc (.deferred (some []))).alloc (.loop r),f,(a5++[eP (.yield l) #[] #[]]++a6).toArray,(w.alloc (.deferred (some []))).alloc (.loop r),ah,?_,fun _ _=>trivial,?_,fun h=>by simp[aY]at h,callsIn_wide.2 ?_⟩
 ·have he:a.eval (.const (.func (.yield l) #[] #[]))= .func (.yield l) #[] #[]:=rfl;simp[resolve,ha.eval hg,bD,he]
 ·have h:=NI a9.1 (a5++[eP (.yield l) #[] #[]]++a6).toArray ((w.alloc (.deferred (some []))).alloc (.loop r));simpa[invoke]using h
 refine(ag.2 _ A).mono ?_;rintro _ w' ⟨I',H',ae,rfl,ap⟩;have a4:=hst1.call ae;have a1:=ae.le;have a7:Has { a with defers:=[ND w.heap.size]++a.defers } cx.n e (ND w.heap.size::cx.ds):=⟨ha.size,by simp[ha.defs],ha.get⟩;rcases ap with⟨_,G,rfl,hY⟩|⟨c,G,rfl,hZ⟩
 ·refine⟨_,_,run_endLoop (a4.own _ (.head _)) (by rw[O];simp),?_⟩;have a8:=((a4.block (i:=0) (o':= .loop { r with state:= .exhausted }) rfl dN).sublist (dK _ _)).perm (H':=(w.heap.size,.deferred (some []))::(G++R)) dD.symm;have hp:r.pending=none:=by rw[O]
  rw[hp]at a8 ⊢;exact done w.heap.size I' G a1 hY _ _ a7 a8
 refine⟨_,_,run_endLoop (a4.own _ (.head _)) sI,?_⟩;have a8:=((a4.block (i:=0) (o':= .loop { { r with state:= .done,pending:=some c }with state:= .exhausted }) rfl dN).sublist (dK _ _)).perm (H':=(w.heap.size,.deferred (some []))::(G++R)) dD.symm;have hw:=left w.heap.size c I' G a1 hZ _ _ a7 a8;have hF:({ cx with ds:=ND w.heap.size::cx.ds }:Cx).F=aY:=Cx.wide hr;rw[hF]at hw;exact hw
end
theorem a1Y{t n}(h:aK t n=true):∀u∈[t],aK u n=true:=fun u A=>by simp at A;subst A;exact h
theorem c3h{t u n}(h:aK t n=true)(G:aK u n=true):∀x∈[t,u],aK x n=true:=fun x A=>by
 simp at A;rcases A with rfl|rfl
 ·exact h
 exact G
theorem seq1{α:Type}(l:List α)(f:α→Value):∀args∈l.map (fun x=>[f x]),args.length=1:=fun args h=>by
 obtain⟨x,_,rfl⟩:=List.mem_map.1 h;rfl
theorem a7z{α:Type}{l:List α}{f:α→Value}{k:Nat}{args}(h:(l.map (fun x=>[f x]))[k]?=some args):∃x,l[k]?=some x∧args=[f x]:=by
 rw[dY]at h;cases hl:l[k]? with
 |none=>rw[hl]at h;cases h
 |some x=>rw[hl]at h;cases h;exact⟨x,rfl,rfl⟩
theorem Cj.a3b{h Q c e I H}(A:h.D=[])(k:(∀p∈H,h.w0.heap.size≤p.1)→Cj h Q c e I H):Cj h Q c e I H:=fun a w G hs=>k (fun p N=>by
 have:=hs.new p N;rw[A]at this;exact this.resolve_left sI) a w G hs
theorem J.a3b{h Q A r e I H}(G:h.D=[])(k:(∀p∈H,h.w0.heap.size≤p.1)→J h Q A r e I H):J h Q A r e I H:=fun a w N hs=>k (fun p O=>by
 have:=hs.new p O;rw[G]at this;exact this.resolve_left sI) a w N hs
theorem BM.base{G A sz n xs g T}(h:BM G sz n xs g)(hn:∀p∈gH T xs g,A≤p.1):BM A sz n xs g:=by
 cases g with
 |none=>exact h
 |some q=>exact⟨hn _ (.head _),h.2⟩
theorem yS.XY{P f fn c args I H}{A:Ending→Heap→HL→Prop}(hf:P.funcs[f]?=some fn)(O:fn.body=some c)(N:fn.name≠ "runtime.NumGoroutine")
 (hn:args.length≤fn.ntmps)
 (h:∀w0,Ready I H w0→Cj ⟨P,fn.ntmps,w0,H.map (·.1),I,[],none⟩ (bodyPostM aY 0 P fn (RR w0 (H.map (·.1)) I A)) c (QL 0 args) I H):yS P f args I H A:=by
 refine⟨⟨fn,hf,N,by simp[O]⟩,fun w G=>?_⟩;refine(callsIn_wide (n:=0)).1 (callsIn_of_wp_marks hf O trivial ?_);exact h w G _ _ (eX args fn.ntmps hn) (cO w I H G.1 G.2.1 G.2.2.1 G.2.2.2)
def OU (cx:Cx) (fn:Func) (post:Ending→Heap→HL→Prop) (ds:List Deferred) (e:Env) (I:Heap) (H:HL):Prop:=
 ∀a w,Has a cx.n e cx.ds→St cx.w0 cx.D cx.I0 I H w→LeavesInM aY 0 cx.P fn a.tmps (RR cx.w0 cx.D cx.I0 post) ds .returning w
section
variable {cx:Cx} {fn:Func} {post:Ending→Heap→HL→Prop} {e:Env} {I:Heap} {H H':HL} {ds:List Deferred}
theorem Ej.a1R{x}(G:x= .ret∨x= .normal)(h:OU cx fn post cx.ds e I H):Ej cx (bodyPostM aY 0 cx.P fn (RR cx.w0 cx.D cx.I0 post)) x e I H:=by
 intro a w A hs;have:=h a w A hs;rw[←A.defs]at this;rcases G with rfl|rfl
 ·exact this
 exact this
theorem OU.mark{b} i (A:H[i]?=some (b,.deferred (some [])))(G:DZ H i (b,.deferred none) H')(h:OU cx fn post ds e I H'):OU cx fn post (ND b::ds) e I H:=
 fun a _ N hs=>⟨sI,.inl ⟨b,_,rfl,run_takeDeferred (hs.own _ (aG A)),h a _ N (hs.block A G)⟩⟩
theorem OU.keep(A:Keeps H' H)(h:OU cx fn post ds e I H'):OU cx fn post ds e I H:=fun a w G hs=>h a w G (hs.sublist A)
theorem OU.a5M{t v}(hr:fn.results= #[.tmp t])(h:eg e t=some v)(A:post (.returned v) I H):OU cx fn post [] e I H:=by
 intro a w G hs;refine⟨v,?_,I,H,hs,A⟩;rw[results_tmp hr];have:=G.get t v h;simp[this]
theorem OU.a4h{t u v x}(hr:fn.results= #[.tmp t,.tmp u])(A:eg e t=some v)(G:eg e u=some x)(N:post (.returned (.tuple #[v,x])) I H):OU cx fn post [] e I H:=by
 intro a w h hs;refine⟨_,?_,I,H,hs,N⟩;rw[results_tmp2 hr];have O:=h.get t v A;have Q:=h.get u x G;simp[O,Q]
end
section
variable {α:Type} [BEq α] [LawfulBEq α]
abbrev ML (α:Type):=List (α×Value×Nat)
abbrev KO (kv:α→Value) (p:α×Value×Nat):MapEntry:={ key:=kv p.1,val:=p.2.1,born:=p.2.2 }
def zY (kv:α→Value) (l:ML α) (c:Nat):Obj:= .map (l.map (KO kv)).toArray c
def BF (l:ML α) (a:α):Option Value:=match l with
 |[]=>none
 |(b,v,_)::r=>if a == b then some v else BF r a
def BN (l:ML α) (a:α) (v:Value) (c:Nat):ML α:=match l with
 |[]=>[(a,v,c)]
 |(b,u,n)::r=>if a == b then(b,v,n)::r else(b,u,n)::BN r a v c
def EU (l:ML α) (a:α) (c:Nat):Nat:=if (BF l a).isSome then c else c+1
def midx (l:ML α) (a:α) (i:Nat):Option (Nat×Value):=match l with
 |[]=>none
 |(b,v,_)::r=>if a == b then some (i,v)else midx r a (i+1)
def GU (P:Program) (K:TypeId) (kv:α→Value):Prop:=
 (∀(a:α) (l:ML α) (w:World),(aI K (kv a) (l.map (KO kv))).run P w= .ok (midx l a 0) w)∧(∀b a w,(aQ b 10000 K (kv a)).run P w= .ok () w)∧∀a,aW 10000 (kv a) (kv a)=true
theorem run_findKey{P K w d}(G:P.underlying K=some d){k A r}(h:aT d k A 0=some r):(aI K k A).run P w= .ok r w:=by
 simp[aI,run_underlying G,h]
omit [LawfulBEq α] in
theorem a4i{kv d}(hs:∀a b,aP d (kv a) (kv b)=some (a == b)) a:∀(l:ML α) (i:Nat),aT d (kv a) (l.map (KO kv)) i=some (midx l a i)
 |[],_=>rfl
 |(b,u,n)::r,i=>by
  simp only[fB,aT,hs,midx];cases a == b
  ·simp only[aZ,if_false];exact a4i hs a r (i+1)
  simp
omit [LawfulBEq α] in
theorem GU.now{P K}{kv:α→Value}{d}(h:P.underlying K=some d)(hs:∀a b,aP d (kv a) (kv b)=some (a == b))(A:∀b a w,(aQ b 10000 K (kv a)).run P w= .ok () w)(G:∀a,aW 10000 (kv a) (kv a)=true):GU P K kv:=
 ⟨fun a l _=>run_findKey h (a4i hs a l 0),A,G⟩
omit [LawfulBEq α] in
theorem a6F{P K kv w}(h:∀a b,(Op.equal K (kv a) (kv b)).run P w= .ok (a == b) w) a:∀(l:ML α) (i:Nat),(dF K (kv a) (l.map (KO kv)) i).run P w= .ok (midx l a i) w
 |[],i=>by simp[dF,midx]
 |(b,u,n)::r,i=>by
  simp only[fB,dF,midx,aF,h,aB];cases a == b
  ·simp only[aZ,if_false];exact a6F h a r (i+1)
  simp
omit [LawfulBEq α] in
theorem GU.equal{P K}{kv:α→Value}{d}(h:P.underlying K=some d)(hs:∀a b,aP d (kv a) (kv b)=none)(A:∀a b w,(Op.equal K (kv a) (kv b)).run P w= .ok (a == b) w)(G:∀b a w,(aQ b 10000 K (kv a)).run P w= .ok () w)(N:∀a,aW 10000 (kv a) (kv a)=true):GU P K kv:=by
 refine⟨fun a l w=>?_,G,N⟩;cases l with
 |nil=>exact run_findKey h rfl
 |cons p r=>
  have O:aT d (kv a) ((p::r).map (KO kv)) 0=none:=by simp[aT,hs]
  have Q:=a6F (P:=P) (K:=K) (w:=w) (fun a b=>A a b w) a (p::r) 0;simp only[aI,aF,run_underlying h,aB,O];exact Q
theorem GU.int{P K k}(A:P.underlying K=some (.int k)):GU P K (fun a:Int=>Value.int k a):=by
 refine GU.now A (fun a b=>by simp[aP]) (fun b a w=>?_) (fun a=>?_)
 ·have h:∀n,(aQ b (n+1) K (.int k a)).run P w= .ok () w:=fun n=>by simp[aQ,run_underlying A]
  exact h 9999
 have h:∀n,aW (n+1) (.int k a) (.int k a)=true:=fun n=>by simp[aW]
 exact h 9999
theorem a0u a:∀n,aW n (str a) (str a)=true:=fun n=>by
 cases n<;>simp only[aW,str]<;>(show(a.toArray == a.toArray)=true)<;>simp
theorem GU.text{P K}(h:P.underlying K=some .string):GU P K (fun a:List UInt8=>str a):=by
 refine GU.now h (fun a b=>?_) (fun b a w=>run_checkKey h b a w) (fun a=>a0u a _);simp only[aP,str,dA];show(a.toArray == b.toArray)=(a == b);simp
theorem VZ{a}:∀(l:ML α) (i:Nat),BF l a=none→midx l a i=none∧∀v c,BN l a v c=l++[(a,v,c)]
 |[],_,_=>⟨rfl,fun _ _=>rfl⟩
 |(b,u,n)::r,i,h=>by
  unfold BF at h
  split at h
  ·cases h
  rename_i A
  obtain⟨N,O⟩:=VZ r (i+1) h;have G:(a == b)=false:=by simpa using A
  refine⟨?_,fun v c=>?_⟩
  ·simp only[midx,G];exact N
  simp only[BN,G,aZ,if_false,O,dG]
theorem a1e{a v}:∀(l:ML α) (i:Nat),BF l a=some v→
 ∃j u n,midx l a i=some (i+j,v)∧l[j]?=some (a,u,n)∧∀x c,BN l a x c=l.set j (a,x,n)
 |[],_,h=>by cases h
 |(b,u,n)::r,i,h=>by
  unfold BF at h
  split at h
  ·rename_i O
   have A:=zC O;subst A;cases h;exact⟨0,v,n,by simp[midx],rfl,fun x c=>by simp[BN]⟩
  rename_i G
  have N:(a == b)=false:=by simpa using G
  obtain⟨j,Q,Z,h1,h2,h3⟩:=a1e r (i+1) h;refine⟨j+1,Q,Z,?_,by simpa using h2,fun x c=>by simp[BN,N,h3]⟩;simp only[midx,N,aZ,if_false];rw[h1,Nat.add_assoc,Nat.add_comm 1 j]
variable {cx:Cx} {Q:Qt} {e:Env} {I:Heap} {H:HL} {o:Oper} {C:Ct} {S:World→Prop}
theorem a9H{P:Program}{T K E b c:Nat}{kv:α→Value}{l:ML α}{a:α}{v:Value}{w:World}(hT:P.underlying T=some (.map K E))(hk:GU P K kv)(hb:w.heap[b]?=some (zY kv l c)):
 (bV T (.map (some b)) (kv a) v).run P w= .ok () (aH w b (zY kv (BN l a v c) (EU l a c))):=by
 obtain⟨hf,hc,G⟩:=hk;have hg:(getObj b).run P w= .ok (zY kv l c) w:=by simp[getObj,bU,hb,zY]
 have hset:∀o',(setObj b o').run P w= .ok () (aH w b o'):=fun o'=>by simp[setObj,bU,hb,aH,zY]
 cases hm:BF l a with
 |none=>
  obtain⟨N,h⟩:=VZ l 0 hm;have Z:(aI K (kv a) (l.map (KO kv))).run P w= .ok none w:=by rw[hf,N]
  simp only[bV,aF,run_underlying hT,aB,hg,zY,hc,Z,hset,h,EU,hm];simp
 |some u=>
  obtain⟨j,u',n,N,h,Z⟩:=a1e l 0 hm;rw[Nat.zero_add]at N;have h4:(aI K (kv a) (l.map (KO kv))).run P w= .ok (some (j,u)) w:=by rw[hf,N]
  have hj:(l.map (KO kv)).toArray[j]?=some { key:=kv a,val:=u',born:=n }:=by simp[h,KO]
  have O:∀w,(dW (kv a) (kv a)).run P w= .ok (kv a) w:=fun w=>by simp[dW,G]
  simp only[bV,aF,run_underlying hT,aB,hg,zY,hc,h4,hj,Option.map_some,Option.getD_some,O,hset,Z,EU,hm];simp only[Option.isSome_some,if_true];refine zD (fun A=>Result.ok () (aH w b (Obj.map A c))) ?_
  apply cZ
  intro i;rw[dM];simp only[List.getElem?_toArray,dY,dX]
  by_cases hi:j=i
  ·subst hi;have Q:j<l.length:=by
    rcases dU j l.length with h'|h'
    ·exact h'
    simp[List.getElem?_eq_none h']at h
   have h5:l[j]=(a,u',n):=by
    have:=List.getElem?_eq_getElem Q;rw[h]at this;exact(Option.some.inj this).symm
   simp[Q,h5]
  simp[hi]
theorem FH{T K E b c:Nat}{m x y}{kv:α→Value}{l a}{G v:Value}{H'}(i:Nat)(h:o.op= .insert T m x y∨o.op= .mapUpdate T m x y)(hd:o.dst=none)(hm:ev e m=some (.map (some b)))(hx:ev e x=some G)(N:G=kv a)(hy:ev e y=some v)(hT:cx.P.underlying T=some (.map K E))(hK:GU cx.P K kv)
 (O:H[i]?=some (b,zY kv l c))(Z:DZ H i (b,zY kv (BN l a v c) (EU l a c)) H')(kk:C e I H'):GR cx Q o e I H C:=by
 intro _ a0 w0 w A hs;unfold aV;subst N;have hb:=hs.own _ (aG O);have hr:=a9H (a:=a) (v:=v) hT hK hb;have:(execOp w0.eval o).run cx.P w= .ok .skip (aH w b (zY kv (BN l a v c) (EU l a c))):=by
  rcases h with h|h<;>simp[execOp,h,A.eval hm,A.eval hx,A.eval hy,hr]
 rw[this];simp only[aJ,hd];exact a0 _ _ _ kk _ _ A.VY (hs.block O Z)
theorem a7h{P:Program}{T K E b c:Nat}{kv:α→Value}{l:ML α}{a:α}{z:Value}{w:World}{ok:Bool}(h:P.underlying T=some (.map K E))(N:GU P K kv)(hz:∀w,(zeroValue E).run P w= .ok z w)(O:w.heap[b]?=some (zY kv l c)):
 (bW T (.map (some b)) (kv a) ok).run P w= .ok (if ok then .tuple #[(BF l a).getD z,.bool (BF l a).isSome]else(BF l a).getD z) w:=by
 obtain⟨hf,A,_⟩:=N;have hg:(getObj b).run P w= .ok (zY kv l c) w:=by simp[getObj,bU,O,zY]
 cases hm:BF l a with
 |none=>
  have G:(aI K (kv a) (l.map (KO kv))).run P w= .ok none w:=by rw[hf,(VZ l 0 hm).1]
  simp only[bW,aF,run_underlying h,aB,hg,zY,aO,A,G,hz];simp
 |some u=>
  obtain⟨j,_,n,Q,_,G⟩:=a1e l 0 hm;have Z:(aI K (kv a) (l.map (KO kv))).run P w= .ok (some (0+j,u)) w:=by rw[hf,Q]
  simp only[bW,aF,run_underlying h,aB,hg,zY,aO,A,Z];simp
theorem XE{T K E b c:Nat}{m x}{kv:α→Value}{l a}{h z:Value}(N:o.op= .lookup T m x true)(O:ev e m=some (.map (some b)))(Q:ev e x=some h)(A:h=kv a)(Z:cx.P.underlying T=some (.map K E))(hK:GU cx.P K kv)(hz:∀w,(zeroValue E).run cx.P w= .ok z w)
 (hb:yR S b (zY kv l c)):CW cx o e S (.tuple #[(BF l a).getD z,.bool (BF l a).isSome]):=by
 intro w0 w G hs;subst A;have hr:=a7h (a:=a) (ok:=true) Z hK hz (hb w hs);simp only[execOp,N,aF,G.eval O,G.eval Q,hr,aB,aO,if_true]
theorem b5Y{T K E b c:Nat}{m x}{kv:α→Value}{l a}{h z:Value}(N:o.op= .lookup T m x false)(O:ev e m=some (.map (some b)))(Q:ev e x=some h)(A:h=kv a)(Z:cx.P.underlying T=some (.map K E))(hK:GU cx.P K kv)(hz:∀w,(zeroValue E).run cx.P w= .ok z w)
 (hb:yR S b (zY kv l c)):CW cx o e S ((BF l a).getD z):=by
 intro w0 w G hs;subst A;have hr:=a7h (a:=a) (ok:=false) Z hK hz (hb w hs);simp only[execOp,N,aF,G.eval O,G.eval Q,hr,aB,aO,if_false,aZ]
theorem IV{T K E b c:Nat}{m x:Operand}{kv:α→Value}{l:ML α}{a:α}{h z:Value}(G:cx.P.underlying T=some (.map K E))(N:GU cx.P K kv)(hz:∀w,(zeroValue E).run cx.P w= .ok z w)(O:yR S b (zY kv l c))(Q:o.op= .lookup T m x false:=by exact rfl)(Z:ev e m=some (.map (some b)):=by exact rfl)(hx:ev e x=some h:=by exact rfl)(A:h=kv a:=by exact rfl):CW cx o e S ((BF l a).getD z):=b5Y Q Z hx A G N hz O
end
theorem b5c(c d:UInt8):((c.toNat:Int)=(d.toNat:Int))↔c=d:=by
 constructor
 ·intro h;exact UInt8.toNat_inj.1 oM
 intro h;subst h;rfl
theorem nb(a n:Nat):((a:Int) == (n:Int))=(a == n):=by rw[Bool.eq_iff_iff,beq_iff_eq,beq_iff_eq];omega
theorem nb1(a:Nat):((a:Int) == 1)=(a == 1):=nb a 1
theorem a9N{c d:UInt8}(h:(c.toNat:Int)=(d.toNat:Int)):c=d:=(b5c c d).1 h
theorem a6Z{c d:UInt8}(h:¬(c.toNat:Int)=(d.toNat:Int)):c≠d:=fun e=>h ((b5c c d).2 e)
def LD (T:TypeId) (I:Heap) (l:List (List UInt8)) (v:Value):Prop:=∃b c sp,v= .slice (some ⟨b,0,none⟩) l.length c∧I b=some (yZ T (l.map str++sp))
theorem LD.mono{T I A l v}(h:LD T I l v)(G:Le I A):LD T A l v:=
 let ⟨b,c,sp,N,O⟩:=h;⟨b,c,sp,N,G _ _ O⟩
theorem JL{l:List (List UInt8)}{sp}{k:Nat}{x}(h:l[k]?=some x):(l.map str++sp)[k]?=some (str x):=by
 obtain⟨A,hg⟩:=bJ.1 h;rw[bI (by simpa using A)];simp[h]
theorem IJ(l:List UInt8):(⟨l.toArray⟩:ByteArray).data.toList=l:=sI
theorem b5k{x}(h: -2147483648≤x∧x≤2147483647):IntKind.i32.wrap x=x:=by
 simp[IntKind.wrap,IntKind.bits,IntKind.signed];omega
theorem drop_cons{α:Type}{s:List α}{k c}(h:s[k]?=some c):s.drop k=c::s.drop (k+1):=by
 obtain⟨A,hg⟩:=bJ.1 h;rw[List.drop_eq_getElem_cons A,hg]
theorem Ej.c0T{h fn}{A:Ending→Heap→HL→Prop}{e I H t u s v x y}(hr:fn.results= #[.tmp t,.tmp u,.tmp s])(N:h.ds=[])(O:eg e t=some v)(Q:eg e u=some x)(Z:eg e s=some y)(hp:A (.returned (.tuple #[v,x,y])) I H):
 Ej h (bodyPost h.P fn (RR h.w0 h.D h.I0 A)) .ret e I H:=by
 intro a w G hs;refine⟨G.defs.trans N,_,?_,I,H,hs,hp⟩;have h1:=G.get t v O;have h2:=G.get u x Q;have h3:=G.get s y Z;simp[results,hr,h1,h2,h3]
theorem yS.frame{P f args I H}{G:Ending→Heap→HL→Prop} R (h:yS P f args I H G):yS P f args I (H++R) (fun e Z H'=>∃H1,H'=H1++R∧G e Z H1):=by
 refine⟨h.1,fun w Q=>?_⟩;have A:=cO w I (H++R) Q.1 Q.2.1 Q.2.2.1 Q.2.2.2;have N:Ready I H w:=⟨A.sub,fun p O=>A.own p (aC _ O),by
  have:=A.nodup;rw[aX,bC]at this;exact this.1,fun p O=>A.dis p (aC _ O)⟩
 refine(h.2 w N).mono fun e w' ⟨Z,H1,hs,O⟩=>⟨Z,H1++R,A.call hs,H1,rfl,O⟩
theorem yS.drop{P f args I H}{G A:Ending→Heap→HL→Prop}(h:yS P f args I H G)(Q:∀e N H',G e N H'→∃O,O.Sublist H'∧A e N O):yS P f args I H A:=
 ⟨h.1,fun w Z=>(h.2 w Z).mono fun e _ ⟨N,H',hs,hq⟩=>let ⟨O,h1,h2⟩:=Q e N H' hq;⟨N,O,hs.sublist h1,h2⟩⟩
theorem EX{O Q o e I C R d f fo xs ts Z a0 vs}{G:Ending→Heap→HL→Prop}
 (ho:o.op= .call ⟨.value fo,xs.toArray,ts⟩)(hd:o.dst=some d)(hn:aK d O.n=true)(hf:ev e fo=some (.func (.func f) Z.toArray a0.toArray))(hx:evs e xs=some vs)
 (hs:yS O.P f (Z++vs++a0) I [] G)
 (k:∀v A h,Le I A→(∀p∈h,O.w0.heap.size≤p.1)→G (.returned v) A h→C ((d,v)::e) A (h++R))
 (kp:∀ch A h,Le I A→G (.panicked ch) A h→Ej O Q (.panic ch) e A (h++R))
 (ko:∀A h,¬G .outgrown A h):GR O Q o e I R C:=by
 intro K hK a w ha a1;unfold aV;have hr:(execOp a.eval o).run O.P w= .ok (.enter f (Z++vs++a0).toArray) w:=by
  have a7:xs.toArray.map a.eval=vs.toArray:=by
   rw[bT,ha.YO hx]
  simp only[execOp,ho,resolve,a7,ha.eval hf,bD,invoke,aF,aO,aB,NI hs.1];simp
 rw[hr];simp only[aJ];have a2:Ready I [] w:=⟨a1.sub,fun _ N=>absurd N (eG),List.nodup_nil,fun _ N=>absurd N (eG)⟩;refine(hs.2 w a2).mono ?_;rintro en w' ⟨A,h,a3,N⟩;have a5:=a3.le;have a4:=St.call (H1:=[]) (R:=R) a1 a3;have a6:∀p∈h,O.w0.heap.size≤p.1:=fun p N=>Nat.le_trans a1.size ((a3.new p N).resolve_left sI);cases en with
 |returned v=>
  rw[hd];exact hK _ _ _ (k v A h a5 a6 N) _ _ (ha.put hn) a4
 |panicked ch=>exact kp ch A h a5 N _ _ ha a4
 |outgrown=>exact(ko _ _ N).elim
def KA (T:TypeId) (I:Heap) (l:List (List UInt8)) (v:Value):Prop:=(l=[]∧v= .slice none 0 0)∨∃b c sp,v= .slice (some ⟨b,0,none⟩) l.length c∧l.length≤c∧I b=some (yZ T (l.map str++sp))
theorem KA.mono{T I A l v}(h:KA T I l v)(G:Le I A):KA T A l v:=h.imp id fun⟨b,c,sp,N,O,Q⟩=>⟨b,c,sp,N,O,G _ _ Q⟩
theorem KA.some{T I l v}(h:KA T I l v)(A:l≠[]):LD T I l v:=let ⟨b,c,sp,G,_,N⟩:=h.resolve_left fun h=>A h.1;⟨b,c,sp,G,N⟩
section
variable {cx:Cx} {Q:Qt} {e:Env} {I:Heap} {R:HL} {T:TypeId} {l:List (List UInt8)} {n base:Nat} {g:Gs}
theorem a8i(hg:BM base 1 n (l.map str) none):l=[]∧n=0:=⟨by simpa using hg.2,hg.1⟩
theorem c2k{b c sp}(hg:BM base 1 n (l.map str) (some (b,c,sp))):base≤b∧n=l.length∧l.length≤c:=⟨hg.1,by have:=hg.2.1;simpa using this.symm,by have:=hg.2.2;simp at this;omega⟩
theorem b0x{X:Heap→HL→Prop}(hg:BM base 1 n (l.map str) g)(O:∀b o,base≤b→(∀h,Le I h→h b=some o→X h R)→X I ((b,o)::R))(k:∀h,Le I h→KA T h l (gV n g)→X h R):X I (gH T (l.map str) g++R):=by
 cases g with
 |none=>
  obtain⟨A,G⟩:=a8i hg;subst G;exact k I (Le.refl _) (.inl ⟨A,rfl⟩)
 |some q=>
  obtain⟨b,c,sp⟩:=q;obtain⟨A,G,Q⟩:=c2k hg;subst G;exact O b _ A fun h N Z=>k h N (.inr ⟨b,c,sp,rfl,Q,Z⟩)
theorem Cj.ZY{c}(hg:BM cx.w0.heap.size 1 n (l.map str) g)(k:∀h,Le I h→KA T h l (gV n g)→Cj cx Q c e h R):Cj cx Q c e I (gH T (l.map str) g++R):=
 b0x (X:=fun I H=>Cj cx Q c e I H) hg (fun _ _ A k=>Cj.persist A k) k
theorem J.ZY{h r}(hg:BM cx.w0.heap.size 1 n (l.map str) g)(k:∀A,Le I A→KA T A l (gV n g)→J cx Q h r e A R):J cx Q h r e I (gH T (l.map str) g++R):=
 b0x (X:=fun I H=>J cx Q h r e I H) hg (fun _ _ G k=>J.persist G k) k
end
section
variable {cx:Cx} {Q:Qt} {o:Oper} {e:Env} {I:Heap} {H:HL} {C:Ct} {S:World→Prop}
theorem a8b{d T E sz}(A:o.op= .buildSlice T 0 #[])(hd:o.dst=some d)(hn:aK d cx.n=true)
 (G:cx.P.underlying T=some (.slice E))(h:∀w,(sizeOf E).run cx.P w= .ok sz w)
 (k:∀b,cx.w0.heap.size≤b→C ((d,.slice (some ⟨b,0,none⟩) 0 0)::e) I ((b,yZ E [])::H)):GR cx Q o e I H C:=by
 intro K N a w O hs;unfold aV;have:(execOp a.eval o).run cx.P w= .ok (.value (.slice (some ⟨w.heap.size,0,none⟩) 0 0)) { w with heap:=w.heap.push (yZ E []) }:=by
  simp[execOp,A,Instr.buildSlice,run_underlying G,h,Instr.fill,newRow,yZ];exact zD (fun l=>w.alloc (Obj.cells l E)) (Array.eq_empty_of_size_eq_zero sI)
 rw[this];simp only[aJ,hd];exact N _ _ _ (k _ hs.size) _ _ (O.put hn) (hs.alloc _)
theorem a9w{P w T l m}(h:P.underlying T=some .bool):(Op.equal T (.bool l) (.bool m)).run P w= .ok (l == m) w:=by
 show(aU (9999+1) T (.bool l) (.bool m)).run P w=_;rw[aU];simp only[aF,run_underlying h,aB,aO]
theorem b5U{x y T U l m}(A:o.op= .binOp .eql T x y U)(G:ev e x=some (.bool l))(N:ev e y=some (.bool m))(O:cx.P.underlying T=some .bool):CW cx o e S (.bool (l == m)):=by
 intro a w h _;have hg:eqGuard .eql T x y (.bool l) (.bool m)=pure ():=rfl;simp[execOp,A,h.eval G,h.eval N,hg,binOp,a9w O]
end
end Go.Sx
namespace Ke
open Go.Lib (decodeL decodeN)
abbrev Bs:=List UInt8
def WG:Nat→Bs→List Nat
 |0,_=>[]
 |_+1,[]=>[]
 |f+1,c::r=>(decodeL (c::r)).1::WG f ((c::r).drop (decodeL (c::r)).2)
def runes (s:Bs):List Nat:=WG s.length s
theorem a9p:∀(f g:Nat) (s:Bs),s.length≤f→s.length≤g→WG f s=WG g s
 |0,0,_,_,_=>rfl
 |0,g+1,s,h,_=>by
  have:s=[]:=dH.1 oM;subst this;rfl
 |f+1,0,s,_,h=>by
  have:s=[]:=dH.1 oM;subst this;rfl
 |f+1,g+1,[],_,_=>rfl
 |f+1,g+1,c::r,h1,h2=>by
  have A:=bF (c::r);simp only[bG]at h1 h2;simp only[WG];rw[a9p f g _ (by simp;omega) (by simp;omega)]
theorem b7c:runes []=[]:=rfl
theorem WT{s}(h:s≠[]):runes s=(decodeL s).1::runes (s.drop (decodeL s).2):=by
 cases s with
 |nil=>exact absurd rfl h
 |cons c r=>
  have A:=bF (c::r);show WG (r.length+1) (c::r)=_;simp only[WG];unfold runes;rw[a9p r.length _ _ (by simp;omega) (Nat.le_refl _)]
theorem a2L{s:Bs}{i}(h:i<s.length):runes (s.drop i)=(aS ⟨s.toArray⟩ i).1::runes (s.drop (i+(aS ⟨s.toArray⟩ i).2)):=by
 have A:=bZ ⟨s.toArray⟩ i;simp only at A;rw[←A,WT (by simp;omega),List.drop_drop]
theorem a4j{s:Bs}{i}(h:s.length≤i):runes (s.drop i)=[]:=by rw[bQ h];rfl
theorem decode_le(s:Bs) i:(aS ⟨s.toArray⟩ i).1≤1114111:=by
 rw[←bZ ⟨s.toArray⟩ i];exact Go.Lib.decodeL_rune _
theorem SV(s:Bs){i}(h:i<s.length):1≤(aS ⟨s.toArray⟩ i).2∧i+(aS ⟨s.toArray⟩ i).2≤s.length:=by
 have A:decodeL (s.drop i)=aS ⟨s.toArray⟩ i:=bZ ⟨s.toArray⟩ i;rw[←A];refine⟨bF _,?_⟩;have:=Go.Lib.decodeL_le (s.drop i) (by simp;omega);simp only[eH]at this;omega
theorem a1r:∀(f:Nat) (s:Bs),(WG f s).length≤s.length
 |0,_=>Nat.zero_le _
 |_+1,[]=>Nat.le_refl _
 |f+1,d::r=>by
  have h:=bF (d::r);have:=a1r f ((d::r).drop (decodeL (d::r)).2);simp only[WG,bG];simp only[eH,bG]at this;omega
def enc (c:Nat):Bs:=
 if c<128 then[aA c]else if c<2048 then[aA (192+c / 64),aA (128+c % 64)]
 else if c<65536 then[aA (224+c / 4096),aA (128+c / 64 % 64),aA (128+c % 64)]
 else[aA (240+c / 262144),aA (128+c / 4096 % 64),aA (128+c / 64 % 64),aA (128+c % 64)]
def okc (c:Nat):Prop:=c<55296∨(57344≤c∧c<65536)
theorem c1A{c}(h:okc c):dS (c:Int)=true:=by
 unfold okc at h;unfold dS;simp only[Bool.or_eq_true,Bool.and_eq_true,zH];omega
theorem b7d{c:Nat}(h:dS (c:Int)=true):(dI (c:Int)).data.toList=(if c<128 then(⟨#[aA c]⟩:ByteArray)else if c<2048 then⟨#[aA (192+c / 64),aA (128+c % 64)]⟩else if c<65536 then⟨#[aA (224+c / 4096),aA (128+c / 64 % 64),aA (128+c % 64)]⟩
 else⟨#[aA (240+c / 262144),aA (128+c / 4096 % 64),aA (128+c / 64 % 64),aA (128+c % 64)]⟩).data.toList:=by
 unfold dI;simp only[h,if_true,Int.toNat_natCast]
theorem b5t{c}(h:okc c):(dI (c:Int)).data.toList=enc c:=by
 rw[b7d (c1A h)];unfold enc
 by_cases h1:c<128
 ·rw[zG h1,zG h1]
 rw[zF h1,zF h1]
 by_cases h2:c<2048
 ·rw[zG h2,zG h2]
 rw[zF h2,zF h2]
 by_cases h3:c<65536
 ·rw[zG h3,zG h3]
 rw[zF h3,zF h3]
def rows:List (Bs×Bs):=[
 ([97],[195,160,195,161,195,162,195,163,195,164,195,165,196,129,196,131,196,133,195,128,195,129,195,130,195,131,195,132,195,133,196,128,196,130,196,132]),
 ([99],[195,167,196,135,196,137,196,139,196,141,195,135,196,134,196,136,196,138,196,140]),
 ([100],[196,143,196,145,195,176,196,142,196,144,195,144]),
 ([101],[195,168,195,169,195,170,195,171,196,147,196,149,196,151,196,153,196,155,195,136,195,137,195,138,195,139,196,146,196,148,196,150,196,152,196,154]),
 ([103],[196,157,196,159,196,161,196,163,196,156,196,158,196,160,196,162]),
 ([104],[196,165,196,167,196,164,196,166]),
 ([105],[195,172,195,173,195,174,195,175,196,169,196,171,196,173,196,175,196,177,195,140,195,141,195,142,195,143,196,168,196,170,196,172,196,174,196,176]),
 ([106],[196,181,196,180]),
 ([107],[196,183,196,182]),
 ([108],[196,186,196,188,196,190,197,130,196,185,196,187,196,189,197,129]),
 ([110],[195,177,197,132,197,134,197,136,195,145,197,131,197,133,197,135]),
 ([111],[195,178,195,179,195,180,195,181,195,182,195,184,197,141,197,143,197,145,198,161,195,146,195,147,195,148,195,149,195,150,195,152,197,140,197,142,197,144,198,160]),
 ([114],[197,149,197,151,197,153,197,148,197,150,197,152]),
 ([115],[197,155,197,157,197,159,197,161,197,154,197,156,197,158,197,160]),
 ([116],[197,163,197,165,197,167,197,162,197,164,197,166]),
 ([117],[195,185,195,186,195,187,195,188,197,169,197,171,197,173,197,175,197,177,197,179,198,176,195,153,195,154,195,155,195,156,197,168,197,170,197,172,197,174,197,176,197,178,198,175]),
 ([119],[197,181,197,180]),
 ([121],[195,189,195,191,197,183,195,157,197,184,197,182]),
 ([122],[197,186,197,188,197,190,197,185,197,187,197,189]),
 ([97,101],[195,166,195,134]),
 ([111,101],[197,147,197,146]),
 ([115,115],[195,159]),
 ([116,104],[195,190,195,158]),
 ([206,177],[206,172,206,134]),
 ([206,181],[206,173,206,136]),
 ([206,183],[206,174,206,137]),
 ([206,185],[206,175,207,138,206,144,206,138,206,170]),
 ([206,191],[207,140,206,140]),
 ([207,133],[207,141,207,139,206,176,206,142,206,171]),
 ([207,137],[207,142,206,143]),
 ([208,181],[209,145,208,129])]
def tab:List (Nat×Bs):=[
 (224,[97]),(225,[97]),(226,[97]),(227,[97]),(228,[97]),(229,[97]),(257,[97]),(259,[97]),(261,[97]),(192,[97]),(193,[97]),(194,[97]),(195,[97]),(196,[97]),(197,[97]),(256,[97]),(258,[97]),(260,[97]),
 (231,[99]),(263,[99]),(265,[99]),(267,[99]),(269,[99]),(199,[99]),(262,[99]),(264,[99]),(266,[99]),(268,[99]),
 (271,[100]),(273,[100]),(240,[100]),(270,[100]),(272,[100]),(208,[100]),
 (232,[101]),(233,[101]),(234,[101]),(235,[101]),(275,[101]),(277,[101]),(279,[101]),(281,[101]),(283,[101]),(200,[101]),(201,[101]),(202,[101]),(203,[101]),(274,[101]),(276,[101]),(278,[101]),(280,[101]),(282,[101]),
 (285,[103]),(287,[103]),(289,[103]),(291,[103]),(284,[103]),(286,[103]),(288,[103]),(290,[103]),
 (293,[104]),(295,[104]),(292,[104]),(294,[104]),
 (236,[105]),(237,[105]),(238,[105]),(239,[105]),(297,[105]),(299,[105]),(301,[105]),(303,[105]),(305,[105]),(204,[105]),(205,[105]),(206,[105]),(207,[105]),(296,[105]),(298,[105]),(300,[105]),(302,[105]),(304,[105]),
 (309,[106]),(308,[106]),
 (311,[107]),(310,[107]),
 (314,[108]),(316,[108]),(318,[108]),(322,[108]),(313,[108]),(315,[108]),(317,[108]),(321,[108]),
 (241,[110]),(324,[110]),(326,[110]),(328,[110]),(209,[110]),(323,[110]),(325,[110]),(327,[110]),
 (242,[111]),(243,[111]),(244,[111]),(245,[111]),(246,[111]),(248,[111]),(333,[111]),(335,[111]),(337,[111]),(417,[111]),(210,[111]),(211,[111]),(212,[111]),(213,[111]),(214,[111]),(216,[111]),(332,[111]),(334,[111]),(336,[111]),(416,[111]),
 (341,[114]),(343,[114]),(345,[114]),(340,[114]),(342,[114]),(344,[114]),
 (347,[115]),(349,[115]),(351,[115]),(353,[115]),(346,[115]),(348,[115]),(350,[115]),(352,[115]),
 (355,[116]),(357,[116]),(359,[116]),(354,[116]),(356,[116]),(358,[116]),
 (249,[117]),(250,[117]),(251,[117]),(252,[117]),(361,[117]),(363,[117]),(365,[117]),(367,[117]),(369,[117]),(371,[117]),(432,[117]),(217,[117]),(218,[117]),(219,[117]),(220,[117]),(360,[117]),(362,[117]),(364,[117]),(366,[117]),(368,[117]),(370,[117]),(431,[117]),
 (373,[119]),(372,[119]),
 (253,[121]),(255,[121]),(375,[121]),(221,[121]),(376,[121]),(374,[121]),
 (378,[122]),(380,[122]),(382,[122]),(377,[122]),(379,[122]),(381,[122]),
 (230,[97,101]),(198,[97,101]),
 (339,[111,101]),(338,[111,101]),
 (223,[115,115]),
 (254,[116,104]),(222,[116,104]),
 (940,[206,177]),(902,[206,177]),
 (941,[206,181]),(904,[206,181]),
 (942,[206,183]),(905,[206,183]),
 (943,[206,185]),(970,[206,185]),(912,[206,185]),(906,[206,185]),(938,[206,185]),
 (972,[206,191]),(908,[206,191]),
 (973,[207,133]),(971,[207,133]),(944,[207,133]),(910,[207,133]),(939,[207,133]),
 (974,[207,137]),(911,[207,137]),
 (1105,[208,181]),(1025,[208,181])]
def char (c:Nat):Bs:=
 if (97≤c∧c≤122)∨(48≤c∧c≤57)then enc c
 else if 65≤c∧c≤90 then enc (c+32)
 else if c<128 then[32]
 else if (768≤c∧c≤879)∨(65056≤c∧c≤65071)then[]
 else match tab.lookup c with
  |some s=>s
  |none=>
   if c=962 then enc 963
   else if (945≤c∧c≤969)∨(1072≤c∧c≤1103)then enc c
   else if ((913≤c∧c≤937)∧c≠930)∨(1040≤c∧c≤1071)then enc (c+32)
   else[32]
def MJ:List (Bs×Bs)→List (Nat×Bs)
 |[]=>[]
 |(a,b)::r=>(runes b).map (·,a)++MJ r
theorem b8a:MJ rows=tab:=kR
theorem b8r:(tab.map (·.1)).Nodup:=by decide +kernel
def wf (w:Bs):List Nat→List Bs
 |[]=>if w=[]then[]else[w]
 |c::r=>if char c=[32]then(if w=[]then wf [] r else w::wf [] r)else wf (w++char c) r
def words (s:Bs):List Bs:=wf [] (runes s)
def join:List Bs→Bs
 |[]=>[]
 |[a]=>a
 |a::b::r=>a++[32]++join (b::r)
theorem XZ:∀(l:List Nat) (w:Bs),∀x∈wf w l,x≠[]
 |[],w,x,h=>by
  unfold wf at h
  split at h
  ·cases h
  simp at h;subst h;assumption
 |c::r,w,x,h=>by
  unfold wf at h
  split at h
  ·split at h
   ·exact XZ r [] x h
   rcases List.mem_cons.1 h with rfl|h
   ·assumption
   exact XZ r [] x h
  exact XZ r _ x h
def digit (c:UInt8):Bool:=48≤c && c≤57
def digits (s:Bs):Bool:=s.all digit
def strip (s:Bs):Bs:=(s.dropLast.dropWhile (· == 48))++s.drop (s.length-1)
def number (s:Bs):Bs:=
 let t:=strip s
 let n:=min t.length 99
 [aA (48+n / 10),aA (48+n % 10)]++t
def NG (w:Bs):Bs:=if digits w then number w else w
def cut (s:Bs) (skip:Int):Bs:=s.drop (min (max skip 0) s.length).toNat
def JK (s:Bs) (skip:Int):Bs:=join ((words (cut s skip)).map NG)
end Ke
namespace Ke
def okb (c:UInt8):Bool:=digit c || c == 88 || c == 120 || c == 32 || c == 45
def nb (c:UInt8):Bool:= !(c == 32 || c == 45)
def up (c:UInt8):UInt8:=if c=120 then 88 else c
def norm (s:Bs):Bs:=((s.takeWhile okb).filter nb).map up
def a3C:Nat→Bs→Nat
 |_,[]=>0
 |k,c::r=>(c.toNat-48)*(1+2*(k % 2))+a3C (k+1) r
def check (s:Bs):UInt8:=aA (48+(10-a3C 0 (s.take 12) % 10) % 10)
def val (c:UInt8):Nat:=if c=88 then 10 else c.toNat-48
def a4s:Nat→Bs→Nat
 |_,[]=>0
 |k,c::r=>(10-k)*val c+a4s (k+1) r
def a6A (s:Bs):Bool:=a4s 0 s % 11 == 0 && digits (s.take 9)
def a9M (t:Bs):Bs×Bool:=
 if t.length=10∧a6A t=true then([57,55,56]++t.take 9++[check ([57,55,56]++t.take 9)],true)
 else if t.length=13∧digits t=true∧check t=t.getD 12 0 then(t,true)
 else([],false)
def YB (s:Bs):Bs×Bool:=a9M (norm s)
theorem b1E{p:UInt8→Prop}(h:∀n<256,p (aA n)) c:p c:=by
 have:=h c.toNat c.toNat_lt
 rwa [UInt8.ofNat_toNat]at this
theorem a4d{c}:digit c=true↔48≤c.toNat∧c.toNat≤57:=by
 simp[digit,UInt8.le_iff_toNat_le]
theorem b2Z{c r}:digits (c::r)=(digit c && digits r):=rfl
theorem a2z{a b}:digits (a++b)=(digits a && digits b):=by simp[digits,List.all_append]
theorem b2e:∀(a b:Bs) (k:Nat),a3C k (a++b)=a3C k a+a3C (k+a.length) b
 |[],b,k=>by simp[a3C]
 |c::r,b,k=>by
  simp only[dG,a3C,bG,b2e r b (k+1)];rw[show k+1+r.length=k+(r.length+1) by omega];omega
theorem b1Z:∀(a b:Bs) (k:Nat),a4s k (a++b)=a4s k a+a4s (k+a.length) b
 |[],b,k=>by simp[a4s]
 |c::r,b,k=>by
  simp only[dG,a4s,bG,b1Z r b (k+1)];rw[show k+1+r.length=k+(r.length+1) by omega];omega
end Ke
section
namespace Ke
def rep (s:Bs):Bs:=s.filter nb
theorem c5i c:nb c= !(c == 32 || c == 45):=rfl
end Ke
namespace Go.Sx
def buf (E:List UInt8) (n:Nat):List Value:=EY E++bM (n-E.length) (.int .u8 0)
theorem c3k n:buf [] n=bM n (.int .u8 0):=by simp[buf,EY]
theorem b4u{E n}(h:E.length≤n):(buf E n).length=n:=by simp[buf,EY];omega
theorem c2y{E X n}(h:E.length+X.length≤n):EW (buf E n) E.length (EY X) (buf (E++X) n):=by
 have A:(EY X).length=X.length:=TD X;have G:(EY E).length=E.length:=TD E;refine⟨by rw[b4u oM,A];exact h,?_⟩;unfold buf;rw[A,bY oM,dJ oM,List.drop_append,bQ oM,G];simp only[EY,aX,List.nil_append,List.append_assoc,List.drop_replicate,dV]
 congr 2
 congr 1
 omega
theorem c2e{E n} c (h:E.length<n):(buf E n).set E.length (u8 c)=buf (E++[c]) n:=by
 have A:(EY E).length=E.length:=TD E;unfold buf;rw[dP _ _ oM,A,Nat.sub_self];obtain⟨m,G⟩:∃m,n-E.length=m+1:=⟨n-E.length-1,oM⟩;have N:n-(E++[c]).length=m:=by simp;omega
 rw[G,N,List.replicate_succ,List.set_cons_zero];simp[EY]
theorem c0S{E n}(h:n=E.length):buf E n=EY E++[]:=by
 subst h;simp[buf]
