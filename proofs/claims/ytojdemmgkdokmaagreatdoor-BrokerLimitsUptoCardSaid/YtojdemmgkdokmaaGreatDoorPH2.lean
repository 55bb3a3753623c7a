/-
  Own texts on the laws of the seat, joined: the logic, and contracts of functions. Conditions: none.
-/
import Derived.Test.YtojdemmgkdokmaaGreatDoorNmH
import Derived.Test.YtojdemmgkdokmaaGreatDoorPH1
import Derived.Laws.RangeAny
import Derived.Scope
import Derived.Below
import Derived.Lib.Builder
import Derived.Lib.UnsafeStr
import Derived.Laws.Externs
import Derived.Recover
import Derived.Laws.MakeOwn
import Derived.LoopN
import Derived.Test.YtojdemmgkdokmaaGreatDoorChecked
import Derived.Tactics
import Derived.Tactics2
import Derived.Laws.Pointers
import Derived.Laws.LoneSync
import Derived.RegionTactic
import Derived.RegionCalls
import Derived.ChangeAlike
import Derived.RangeFuncRecord
import Derived.Lib.TrimUEq
import Derived.Lib.TrimAscii
import Derived.Lib.MapLaws
set_option linter.all false
set_option maxRecDepth 100000
set_option maxHeartbeats 40000000
open UInt8 renaming ofNat -> aA
open Go.Result renaming andThen_ok -> aB,andThen -> dM
open List renaming mem_append_left -> aC,mem_of_getElem? -> aG,getElem?_eq_some_iff -> aO,map_append -> aY,drop_eq_nil_of_le -> bD,nodup_append -> bF,length_cons -> bI,getElem?_append_right -> bJ,getElem?_append_left -> bK,replicate -> bP,map_toArray -> bT,take_succ_eq_append_getElem -> bU,take_append_of_le_length -> bZ,perm_middle -> dF,cons_append -> dH,length_eq_zero_iff -> dI,take_of_length_le -> dK,sublist_cons_self -> dL,set_append_right -> dQ,perm_append_comm -> dR,length_append -> dW,getElem?_set -> dY,getElem?_map -> dZ,drop_append -> eH,not_mem_nil -> eP,length_drop -> eU,map_cons -> fE
open Go.Sem renaming run_bind -> aF,run_pure -> aP,run -> bV
open Go.Sx.World renaming block -> aH
open Go.Instr renaming findKey -> aI,sameNow -> aQ,checkKey -> aS,findNow -> aU,sameBits -> aX,mapUpdate -> bW,lookup -> bY,findAsking -> dG,keyThatStays -> dX,typeAssert -> eG
open Go.Oper renaming upon -> aJ,wp -> aW
open Nat renaming blt -> aK,lt_or_ge -> dV,min_eq_left -> eX
open Go.Proofs.Tryz renaming prog -> aN
open Go.Utf8 renaming decode -> aT,encode -> dJ,valid -> dU
open Go.Op renaming equalIn -> aV,maxDepth -> eF
open Go.Fence renaming wide -> aZ
open Bool renaming false_eq_true -> bC
open Go.Deferred renaming ofValue -> bG
open Go.Lib renaming decodeL_width -> bH,decodeL_drop -> cO
open Option renaming isSome_iff_exists -> bM,map_eq_some_iff -> bQ
open Go.Sx.St renaming start -> cZ
open Array renaming ext_getElem? -> dA,getElem?_modify -> dN
open Option.some renaming injEq -> dB
open Go.Addr renaming add_lit -> dD
open Go.Sx.AV renaming z -> dP
open Go.Region renaming wanted -> dS
open Go.Value renaming func -> eY,oneCell' -> fA
open Go.Sx.Has renaming start -> fB
open Prod.mk renaming injEq -> fC
open Go.World renaming frozen? -> fD
open Go.Extern.AbiNoEscape renaming same -> fF
namespace Go.Sx
open Go Go.RowKit
theorem St.below{w w' I}(hr:Ready I [] w)(h:Below w.heap.size w w'):St w [] I I [] w':=by
 have O:∀{b:Nat} {o':Obj},w.heap[b]?=some o'→b<w.heap.size:=fun {b o'} A=>by
  rcases dV b w.heap.size with G|G
  ·exact G
  simp[Array.getElem?_eq_none G]at A
 exact⟨h.os,h.tape,h.output,h.size,fun b A _=>h.block b A,fun b o A=>by rw[h.block b (O (hr.1 b o A))];exact hr.1 b o A,sI,sI,sI,sI,fun _ _=>rfl,Le.refl _,a2j⟩
theorem Pure.of_below{P f args I v}(G:Enters P f)(h:∀w,Ready I [] w→Calls P f args.toArray w fun e w'=>e= .returned v∧Below w.heap.size w w'):Pure P f args I v:=
 ⟨G,fun w A=>(h w A).mono fun _ _ ⟨h1,h2⟩=>⟨I,[],St.below A h2,h1,rfl,rfl⟩⟩
theorem Pure.of_same{P f args I v}(A:Enters P f)(h:∀w,Ready I [] w→Calls P f args.toArray w fun e w'=>e= .returned v∧w'=w):Pure P f args I v:=
 Pure.of_below A fun w G=>(h w G).mono fun _ _ ⟨h1,h2⟩=>⟨h1,h2▸Below.refl _ _⟩
theorem Enters.of{P f fn}(h:P.funcs[f]?=some fn)(h1:fn.name≠ "runtime.NumGoroutine")(h2:fn.body.isNone=false):Enters P f:=⟨fn,h,h1,h2⟩
section
variable {cx:Cx} {Q:Qt} {e:Env} {I:Heap} {H:HL} {o:Oper} {C:Ct} {S:World→Prop}
theorem Cj.scope{c}(h:Cj cx (Exit.noGoto Q) c e I H)(hr:cx.rd=none:=by rfl):Cj cx Q (.scope c) e I H:=Cj.of_wp hr fun _ _ A hs=>wp_scope_straight (h.wp hr A hs)
theorem Ej.b1g(h:Ej cx Q .ret e I H):Ej cx (Exit.noGoto Q) .ret e I H:=h
theorem PV{T d x s}(A:o.op= .range T x)(hd:o.dst=some d)(hn:aK d cx.n=true)(G:ev e x=some (.string s))(O:cx.P.underlying T=some .string)
 (k:∀b,cx.w0.heap.size≤b→C ((d,ptr b 0)::e) I ((b,.stringIter s 0)::H)):GZ cx Q o e I H C:=by
 intro K Z a w h hs;unfold aW;have:(execOp a.eval o).run cx.P w= .ok (.value (ptr w.heap.size 0)) { w with heap:=w.heap.push (.stringIter s 0) }:=by
  simp only[execOp,A,h.eval G,aF,run_range_string w T s O,aB,aP];rfl
 rw[this];simp only[aJ,hd];exact Z _ _ _ (k _ hs.size) _ _ (h.put hn) (hs.alloc _)
theorem a0a{d b pos x s H'} i (O:o.op= .next x true)(hd:o.dst=some d)(hn:aK d cx.n=true)(Z:ev e x=some (ptr b 0))(h:H[i]?=some (b,.stringIter s pos))(hp:pos<s.size)
 (A:AV H i (b,.stringIter s (pos+(aT s pos).2)) H')(k:C ((d,.tuple #[.bool true,.int .i64 pos,.int .i32 (aT s pos).1])::e) I H'):GZ cx Q o e I H C:=by
 intro K hK a w G hs;unfold aW;have hb:=hs.own _ (aG h);have:(execOp a.eval o).run cx.P w= .ok (.value (.tuple #[.bool true,.int .i64 pos,.int .i32 (aT s pos).1])) (aH w b (.stringIter s (pos+(aT s pos).2))):=by
  simp only[execOp,O,G.eval Z,Instr.next,getObj,setObj,aF,bV,hb,dM,hp,if_true];simp[goInt,aH]
 rw[this];simp only[aJ,hd];exact hK _ _ _ k _ _ (G.put hn) (hs.block h A)
theorem VK{d b pos x s}(i:Nat)(A:o.op= .next x true)(hd:o.dst=some d)(hn:aK d cx.n=true)(G:ev e x=some (ptr b 0))(O:H[i]?=some (b,.stringIter s pos))(Z:¬pos<s.size)
 (k:C ((d,.tuple #[.bool false])::e) I H):GZ cx Q o e I H C:=by
 intro K hK a w h hs;unfold aW;have hb:=hs.own _ (aG O);have:(execOp a.eval o).run cx.P w= .ok (.value (.tuple #[.bool false])) w:=by
  simp[execOp,A,h.eval G,Instr.next,getObj,aF,bV,hb,dM,Z]
 rw[this];simp only[aJ,hd];exact hK _ _ _ k _ _ (h.put hn) hs
theorem LW{h T x k r}(A:o.op= .convert h T x)(G:ev e x=some (.int k r))(O:cx.P.underlying h=some (.int k))(Z:cx.P.underlying T=some .string):DK cx o e S (str (dJ r).data.toList):=by
 intro a w ha _;simp[execOp,A,ha.eval G,convert,run_underlying O,run_underlying Z,str,Conv.intToString]
end
end Go.Sx
namespace Go.Sx
open Go
theorem a0J{w:World}{b cs t fr}(h:w.heap[b]?=some (.cells cs t fr)):w.shape? b=some (t,cs.size):=by simp[World.shape?,h]
theorem yT.still{P f args I H}{A:Ending→HL→Prop}(h:yT P f args I H (fun e _ H'=>A e H')):yT P f args I H (fun e G H'=>I=G∧A e H'):=h.forget fun _ _ _ _ O=>⟨rfl,O⟩
theorem b5h{b t:Nat×Obj}{G:HL}:List.Sublist [t] (b::t::G):= .cons _ (.cons_cons _ (List.nil_sublist _))
theorem KR n g:(gV n g).cells=[gV n g].toArray:=by cases g<;>rfl
theorem QO n g:[gV n g].all fA=true:=by cases g<;>rfl
section
variable {cx:Cx} {Q:Qt} {e:Env} {I:Heap} {H:HL} {o:Oper} {C:Ct} {S:World→Prop}
theorem b7F{P w T A j} p (G:P.underlying T=some (.pointer A))(O:P.info? A=some j):(binOp .eql T (.pointer p) (.pointer none)).run P w= .ok (.bool p.isNone) w:=by
 have h:∀d:Nat,(aV (d+1) T (.pointer p) (.pointer none)).run P w= .ok p.isNone w:=fun d=>by
  cases p<;>simp[aV,run_underlying G,sizeOf,typeInfo,samePointer]
 simp only[binOp];simp[Op.equal,eF,h 9999]
theorem b9W{x y T U h} p (O:o.op= .binOp .eql T x y U)(Z:ev e x=some (.pointer p))(hy:ev e y=some (.pointer none))(hT:cx.P.underlying T=some (.pointer h))(A:(cx.P.info? h).isSome=true):DK cx o e S (.bool p.isNone):=by
 intro a w G _;obtain⟨j,hj⟩:=bM.1 A;have hb:=b7F (P:=cx.P) (w:=w) p hT hj;have hg:eqGuard .eql T x y (.pointer p) (.pointer none)=pure ():=rfl;simp[execOp,O,G.eval Z,G.eval hy,hb,hg]
theorem RD{x y:Operand}{T U h:Nat}{p:Option Addr}(G:cx.P.underlying T=some (.pointer h))(O:o.op= .binOp .eql T x y U:=by exact rfl)(Z:ev e x=some (.pointer p):=by exact rfl)(hy:ev e y=some (.pointer none):=by exact rfl)(A:(cx.P.info? h).isSome=true:=by kernel_rfl):DK cx o e S (.bool p.isNone):=b9W p O Z hy G A
theorem b7s{x y T U h b off}(O:o.op= .binOp .neq T x y U)(Z:ev e x=some (ptr b off))(hy:ev e y=some (ptr b off))(hT:cx.P.underlying T=some (.pointer h))(A:(cx.P.info? h).isSome=true):DK cx o e S (.bool false):=by
 intro a w G _;obtain⟨j,hj⟩:=bM.1 A;have hb:=Lib.run_neq_ptr_same (P:=cx.P) w ⟨b,off,none⟩ hT hj;have hg:eqGuard .neq T x y (ptr b off) (ptr b off)=pure ():=rfl;simp[execOp,O,G.eval Z,G.eval hy,hb,hg]
theorem b3Q{x G T O b off} z {cs:List Value}{t fr}(ho:o.op= .convert G T x)(hx:ev e x=some (ptr b off))(hS:cx.P.underlying G=some (.pointer O))(hT:cx.P.underlying T=some .unsafePointer)(Z:(cx.P.info? O).map (·.size)=some (z+1))
 (hb:yR S b (.cells cs.toArray t fr))(A:off<cs.length):DK cx o e S (ptr b off):=by
 intro a w ha hs;obtain⟨j,hj,hz⟩:=bQ.1 Z;have hz:j.size≠0:=oM;have h:=Lib.run_to_unsafe (P:=cx.P) (w:=w) ⟨b,off,none⟩ hS hT hj hz (a0J (hb w hs)) (by simpa using A);simp[execOp,ho,ha.eval hx,h]
theorem b0H{x G T A b off}{cs:List Value}{t fr}(Z:o.op= .convert G T x)(hx:ev e x=some (ptr b off))(hS:cx.P.underlying G=some .unsafePointer)(hT:cx.P.underlying T=some (.pointer A))(O:(cx.P.info? A).isSome=true)
 (hb:yR S b (.cells cs.toArray t fr))(hl:liesAt cx.P cx.P.depth t (cs.length / cx.P.cellsOf t) off A 1=true):DK cx o e S (ptr b off):=by
 intro a w ha hs;obtain⟨j,hj⟩:=bM.1 O;have h:=Lib.run_from_unsafe (P:=cx.P) (w:=w) ⟨b,off,none⟩ hS hT hj (a0J (hb w hs)) (by simpa using hl);simp[execOp,Z,ha.eval hx,h]
theorem b3X{f fn A x ts v}(O:o.op= .call ⟨.value A,#[x],ts⟩)(hf:ev e A=some (.func (.func f) #[] #[]))(Z:ev e x=some v)(h1:cx.P.funcs[f]?=some fn)(h2:(fn.name == "runtime.NumGoroutine")=false)(h3:fn.body.isNone=true)
 (h4:Extern.findNext fn=none)(h5:Extern.find fn=some fF):DK cx o e S v:=by
 intro a w G _;have h:=run_callFunc_extern h1 h2 h3 h4 h5 #[v] w;simp[execOp,O,resolve,invoke,G.eval hf,G.eval Z,h,bG,Lib.run_noEscape,dM]
theorem b1n{x T b off n c}(A:o.op= .call ⟨.builtin .unsafeSliceData,#[x],#[T]⟩)(G:ev e x=some (.slice (some ⟨b,off,none⟩) n c))(O:c≠0):DK cx o e S (ptr b off):=by
 intro a w Z _;have h:=fun ty=>Lib.run_unsafeSliceData_row (P:=cx.P) (w:=w) #[T] ty ⟨b,off,none⟩ n c O;simp[execOp,A,resolve,invoke,Z.eval G,builtin,h]
theorem a7J{x T n c}(A:o.op= .call ⟨.builtin .unsafeSliceData,#[x],#[T]⟩)(G:ev e x=some (.slice none n c)):DK cx o e S (.pointer none):=by
 intro a w O _;have h:=fun Z=>Lib.run_unsafeSliceData_nil (P:=cx.P) (w:=w) #[T] Z n c;simp[execOp,A,resolve,invoke,O.eval G,builtin,h]
theorem a3Y{x y p T U}(G:o.op= .call ⟨.builtin .unsafeString,#[x,y],#[T,U]⟩)(O:ev e x=some (.pointer p))(Z:ev e y=some (i64 0)):DK cx o e S (str []):=by
 intro a w A _;have h:=fun ty=>Lib.run_unsafeString_none (P:=cx.P) (w:=w) T U ty p;simp[execOp,G,resolve,invoke,A.eval O,A.eval Z,builtin,h];rfl
theorem a7Q{x y T U E d b} i l {cs H'}(ho:o.op= .call ⟨.builtin .unsafeString,#[x,y],#[T,U]⟩)(hd:o.dst=some d)(hn:aK d cx.n=true)(hx:ev e x=some (ptr b 0))(hy:ev e y=some (i64 l.length))
 (hT:cx.P.underlying T=some (.pointer E))(hE:cx.P.cellsOf E=1)(A:H[i]?=some (b,yY E (EP l++cs)))(h0:l≠[])(Z:l.length≤9223372036854775807)(a0:AV H i (b,.cells (EP l++cs).toArray E (0,l.length)) H')(k:C ((d,str l)::e) I H'):GZ cx Q o e I H C:=by
 intro K hK a w G hs;unfold aW;have O:=hs.own _ (aG A);have h:=fun ty=>Lib.run_unsafeString_row (P:=cx.P) (w:=w) T U ty E hT hE b (EP l++cs).length (by rw[a0J O];simp) l h0 (by rw[dW,PG];omega) Z (fun j x hj=>by
  rw[dD];refine cell_of_heap O ?_;rw[bK (by rw[PG,Nat.zero_add];exact(aO.1 hj).1)];simp[EP,hj])
 have a1:w.freeze ⟨b,0,none⟩ l.length=aH w b (.cells (EP l++cs).toArray E (0,l.length)):=by
  have hl:l.length≠0:=by simpa using h0
  unfold World.freeze aH;rw[zF hl]
  congr 1
  apply dA
  intro k;rw[dN,Array.getElem?_setIfInBounds]
  by_cases hk:b=k
  ·subst hk;have a2:b<w.heap.size:=hs.lt (aG A);rw[zG rfl,zG rfl,zG a2,show w.heap[b]?=_ from O];simp[yY]
  simp[hk]
 have:(execOp a.eval o).run cx.P w= .ok (.value (str l)) (aH w b (.cells (EP l++cs).toArray E (0,l.length))):=by
  simp[execOp,ho,resolve,invoke,G.eval hx,G.eval hy,builtin,h,a1,str]
 rw[this];simp only[aJ,hd];exact hK _ _ _ k _ _ (G.put hn) (hs.block A a0)
end
section
variable {cx:Cx} {Q:Qt} {e:Env} {I:Heap} {H:HL} {o:Oper} {C:Ct}
theorem c2K{x T v}(A:o.op= .panic x)(G:ev e x=some (.iface T v))(k:Ej cx Q (.panic [{ v:= .iface T v,recovered:=false }]) e I H):GZ cx Q o e I H C:=by
 intro K _ a w h hs;unfold aW;have:(execOp a.eval o).run cx.P w= .halt (.panic (.iface T v)) w:=by
  simp[execOp,A,h.eval G,Instr.panic,goPanic]
 rw[this];exact k a w h hs
end
theorem run_checkKey{P K}(A:P.underlying K=some .string) b v w:(aS b 10000 K (str v)).run P w= .ok () w:=by
 have h:∀n,(aS b (n+1) K (str v)).run P w= .ok () w:=fun n=>by simp[aS,run_underlying A,str]
 exact h 9999
section
variable {cx:Cx} {Q:Qt} {e:Env} {I:Heap} {H:HL} {o:Oper} {C:Ct} {S:World→Prop}
def ent (k:List UInt8) (v:Value):MapEntry:={ key:=str k,val:=v,born:=0 }
theorem CB{T d}(h:o.op= .makeMap T none)(hd:o.dst=some d)(hn:aK d cx.n=true)(k:∀b,cx.w0.heap.size≤b→C ((d,.map (some b))::e) I ((b,.map #[] 0)::H)):GZ cx Q o e I H C:=by
 intro K A a w G hs;unfold aW;have:(execOp a.eval o).run cx.P w= .ok (.value (.map (some w.heap.size))) { w with heap:=w.heap.push (.map #[] 0) }:=by
  simp[execOp,h,Instr.makeMap,newObj,bV]
 rw[this];simp only[aJ,hd];exact A _ _ _ (k _ hs.size) _ _ (G.put hn) (hs.alloc _)
theorem b5Y{T K E b m x y k v H'} i (ho:o.op= .insert T m x y)(hd:o.dst=none)(hm:ev e m=some (.map (some b)))(hx:ev e x=some (str k))(hy:ev e y=some v)(hT:cx.P.underlying T=some (.map K E))(A:cx.P.underlying K=some .string)
 (G:H[i]?=some (b,.map #[] 0))(O:AV H i (b,.map #[ent k v] 1) H')(kk:C e I H'):GZ cx Q o e I H C:=by
 intro _ Z a w h hs;unfold aW;have hb:=hs.own _ (aG G);have a0:=fun b'=>run_checkKey (P:=cx.P) A b' k w;have:(execOp a.eval o).run cx.P w= .ok .skip (aH w b (.map #[ent k v] 1)):=by
  simp[a0,execOp,ho,h.eval hm,h.eval hx,h.eval hy,bW,run_underlying hT,run_underlying A,getObj,setObj,bV,hb,aI,aU,aH,ent]
 rw[this];simp only[aJ,hd];exact Z _ _ _ kk _ _ h.XP (hs.block G O)
theorem b2f{T K E b c m x k v}(ho:o.op= .lookup T m x true)(hm:ev e m=some (.map (some b)))(hx:ev e x=some (str k))(hT:cx.P.underlying T=some (.map K E))(A:cx.P.underlying K=some .string)
 (hb:yR S b (.map #[ent k v] c)):DK cx o e S (.tuple #[v,.bool true]):=by
 intro a w G hs;have h:=hb w hs;have O:=fun b'=>run_checkKey (P:=cx.P) A b' k w;have Z:aQ .string (str k) (str k)=some true:=by
  simp only[aQ,str,dB];show(k.toArray == k.toArray)=true;simp
 simp[execOp,ho,G.eval hm,G.eval hx,bY,run_underlying hT,run_underlying A,getObj,bV,h,O,aI,aU,Z,ent]
theorem b0M{T K E b c m x k y v z}(A:y≠k)(ho:o.op= .lookup T m x true)(hm:ev e m=some (.map (some b)))(hx:ev e x=some (str y))(hT:cx.P.underlying T=some (.map K E))(G:cx.P.underlying K=some .string)(hz:∀w,(zeroValue E).run cx.P w= .ok z w)
 (hb:yR S b (.map #[ent k v] c)):DK cx o e S (.tuple #[z,.bool false]):=by
 intro a w O hs;have h:=hb w hs;have Z:=fun b'=>run_checkKey (P:=cx.P) G b' y w;have a0:aQ .string (str y) (str k)=some false:=by
  simp only[aQ,str,dB];show(y.toArray == k.toArray)=false;simpa using A
 simp[execOp,ho,O.eval hm,O.eval hx,bY,run_underlying hT,run_underlying G,getObj,bV,h,Z,aI,aU,a0,ent,hz]
end
def XA (P:Program) (f:FuncId) (args:List Value) (u:FrameMode) (I:Heap) (H:HL) (post:FrameMode→Heap→HL→Prop):Prop:=
 Enters P f∧∀w,Ready I H w→CallsD P f args.toArray u w fun e u' w'=>(∃v,e= .returned v)∧∃I' H',St w (H.map (·.1)) I I' H' w'∧post u' I' H'
theorem yT.b3i{P f fn c args I H}{A:Ending→Heap→HL→Prop}(hf:P.funcs[f]?=some fn)(Z:fn.body=some c)(O:fn.name≠ "runtime.NumGoroutine")
 (hn:args.length≤fn.ntmps)
 (h:∀w0,Ready I H w0→Cj ⟨P,fn.ntmps,w0,H.map (·.1),I,[],none⟩ (bodyPostD P fn (RR w0 (H.map (·.1)) I A)) c (TI 0 args) I H):yT P f args I H A:=by
 refine⟨⟨fn,hf,O,by simp[Z]⟩,fun w G=>?_⟩;refine calls_of_wp_defers hf Z ?_;exact(h w G).wp rfl (fB args fn.ntmps hn) (cZ w I H G.1 G.2.1 G.2.2.1 G.2.2.2)
section
variable {cx:Cx} {Q:Qt} {e:Env} {I:Heap} {H:HL} {o:Oper} {C:Ct}
theorem J.defer{Z l f fo xs ts}{A G vs:List Value}(hg:o.guard=none)(ho:o.op= .defer ⟨.value fo,xs.toArray,ts⟩)(hd:o.dst=none)
 (hf:ev e fo=some (.func (.func f) A.toArray G.toArray))(hx:evs e xs=some vs)
 (k:J { cx with ds:=⟨.fn (.func f) G.toArray,(A++vs).toArray⟩::cx.ds } Q Z l e I H)(a0:cx.rd=none:=by rfl):J cx Q Z (o::l) e I H:=by
 intro a w O hs;refine wpListIn_plain hg fun K hK=>a6z (.inl a0) ?_;unfold aW;have hr:(execOp a.eval o).run cx.P w= .ok (.defer ⟨.fn (.func f) G.toArray,(A++vs).toArray⟩) w:=by
  have a1:xs.toArray.map a.eval=vs.toArray:=by rw[bT,O.a0u hx]
  simp[execOp,ho,resolve,a1,O.eval hf,bG]
 rw[hr];simp only[aJ,hd];exact hK _ _ (k _ _ ⟨O.size,by simp[Act.put,O.defs],fun t v h=>O.get t v h⟩ hs)
def a4m (cx:Cx) (fn:Func) (post:Ending→Heap→HL→Prop) (e:Env) (I:Heap) (H:HL):Prop:=
 ∀a w,Has a cx.n e cx.ds→St cx.w0 cx.D cx.I0 I H w→∃v,(results fn a.tmps).run cx.P w= .ok v w∧RR cx.w0 cx.D cx.I0 post (.returned v) w
theorem a3O{P fn tmps}{R:Ending→World→Prop}{f G vs u w w0 D I0 H1 R1}{Z:FrameMode→Heap→HL→Prop}(hu:u≠ .run)
 (hs:XA P f (vs++G) u I H1 Z)(A:St w0 D I0 I (H1++R1) w){ds}
 (k:∀u' I' O w',Le I I'→Z u' I' O→St w0 D I0 I' (O++R1) w'→Leaves P fn tmps R ds (settle u') w'):
 Leaves P fn tmps R (⟨.fn (.func f) G.toArray,vs.toArray⟩::ds) u w:=by
 refine leaves_cons (f:=f) (args:=(vs++G).toArray) hu (by have h:=OH hs.1 (vs++G).toArray w;simpa[invoke]using h) ?_;have a0:Ready I H1 w:=⟨A.sub,fun p hp=>A.own p (aC _ hp),by
  have:=A.nodup;rw[aY,bF]at this;exact this.1,fun p hp=>A.dis p (aC _ hp)⟩
 refine(hs.2 w a0).mono ?_;rintro _ u' w' ⟨⟨v,rfl⟩,I',O,a1,hp⟩;exact k u' I' O w' a1.le hp (A.call a1)
theorem Ej.leave{fn}{h:Ending→Heap→HL→Prop}{x u H1 R1 f a0 vs}{A:FrameMode→Heap→HL→Prop}
 (hx:(x= .ret∧u= .returning)∨(x= .normal∧u= .returning)∨∃ch,x= .panic ch∧u= .panicking ch)(a1:cx.ds=[⟨.fn (.func f) a0.toArray,vs.toArray⟩])(hs:XA cx.P f (vs++a0) u I H1 A)
 (k:∀Z O G,Le I O→A Z O G→settle Z= .returning∧a4m cx fn h e O (G++R1)):
 Ej cx (bodyPostD cx.P fn (RR cx.w0 cx.D cx.I0 h)) x e I (H1++R1):=by
 intro a w ha a2;have key:u≠ .run→Leaves cx.P fn a.tmps (RR cx.w0 cx.D cx.I0 h) a.defers u w:=fun hu=>by
  rw[ha.defs,a1];refine a3O hu hs a2 fun Z O G w' a3 hp a4=>?_;obtain⟨h1,h2⟩:=k Z O G a3 hp;rw[h1];exact h2 a w' ha a4
 rcases hx with⟨rfl,rfl⟩|⟨rfl,rfl⟩|⟨ch,rfl,rfl⟩
 ·exact key sI
 ·exact key sI
 exact key sI
theorem a4m.c7j{fn}{h:Ending→Heap→HL→Prop}{H' t A G T T2 T3 b O Z n x y}{cs:List Value}{ty a0 a1 fr a2 a3}(hk:Keeps H' H)(hr:fn.results= #[.cell t T,.cell A T2,.cell G T3])
 (hv:eg e t=some (ptr b 0))(a4:eg e A=some (ptr O 0))(a5:eg e G=some (ptr Z 0))(hb:yR (SS I H) b (.cells cs.toArray ty fr))(a6:yR (SS I H) O (.cells #[x] a0 a2))(a7:yR (SS I H) Z (.cells #[y] a1 a3))
 (a8:∀w,(isAgg T).run cx.P w= .ok true w)(a9:∀w,(isAgg T2).run cx.P w= .ok false w)(aa:∀w,(isAgg T3).run cx.P w= .ok false w)(ab:∀w,(sizeOf T).run cx.P w= .ok n w)(hn:cs.length=n)(hp:h (.returned (.tuple #[.agg cs.toArray,x,y])) I H'):
 a4m cx fn h e I H:=by
 intro a w ha hs;have h1:=ha.get t _ hv;have h3:=ha.get A _ a4;have h4:=ha.get G _ a5;have hc:∀j v,cs[j]?=some v→w.cell? ((⟨b,0,none⟩:Addr).add j)=some v:=fun j v hj=>by
  rw[dD];exact cell_of_heap (hb w hs.ss) (by simpa using hj)
 have h2:=run_loadCells_list (P:=cx.P) (w:=w) ⟨b,0,none⟩ cs hc;rw[hn]at h2;have c2:w.cell? ⟨O,0,none⟩=some x:=cell_of_heap (cs:=[x]) (a6 w hs.ss) rfl;have c3:w.cell? ⟨Z,0,none⟩=some y:=cell_of_heap (cs:=[y]) (a7 w hs.ss) rfl;refine⟨.tuple #[.agg cs.toArray,x,y],?_,I,H',hs.sublist hk,hp⟩;simp[results,hr,h1,h3,h4,asAddr,loadVar,a8,a9,aa,ab,h2,c2,c3]
theorem b4s{P id G O A t2}{Q:Exit→Act→List Frame→World→Prop}{a cs cs' w v ty}(a6:G.op= .call ⟨.builtin .recover,#[],ty⟩)(Z:G.guard=none)(a0:G.dst=some A)(a7:O.op= .assign (.tmp A))(a1:O.guard=none)(a2:O.dst=some t2)
 (a8:A<a.tmps.size)(a5:recoverD cs=some (v,cs')∨(recoverD cs=none∧v= .nilIface∧cs'=cs))(k:Q .normal ((a.put (some A) v).put (some t2) v) cs' w):(Code.region id #[G,O] false).wpS P Q a cs w:=by
 refine wpS_region ?_;have hl:List.range (#[G,O]:Array Oper).size=[0,1]:=rfl;rw[hl];have a3:(execOp a.eval G).run P w= .ok .recover w:=by simp[execOp,a6,resolve,invoke,builtin]
 have he:(a.put (some A) v).eval (.tmp A)=v:=by simp[Act.eval,Act.put,a8]
 have a4:∀c,(execOp (a.put (some A) v).eval O).run P c= .ok (.value v) c:=fun c=>by simp only[execOp,a7,he,aP]
 rcases a5 with h|⟨h,rfl,rfl⟩
 ·simp[wpOpsS,dS,Z,a1,a3,h,a0,a4,aJ,a2,k]
 simp[wpOpsS,dS,Z,a1,a3,h,a0,a4,aJ,a2,k]
theorem XA.recover{P f fn rest args H}{Z:FrameMode→Heap→HL→Prop}{id o1 o2 t1 t2 ty u} v G
 (hf:P.funcs[f]?=some fn)(hb:fn.body=some (.seq (.region id #[o1,o2] false) rest))(a0:fn.name≠ "runtime.NumGoroutine")(hn:args.length≤fn.ntmps)
 (a4:o1.op= .call ⟨.builtin .recover,#[],ty⟩)(a5:o1.guard=none)(a6:o1.dst=some t1)(a7:o2.op= .assign (.tmp t1))(a8:o2.guard=none)(a9:o2.dst=some t2)(a1:Nat.blt t1 fn.ntmps=true)(aa:Nat.blt t2 fn.ntmps=true)
 (a2:∀(A:Frame) (cs:List Frame),A.mode=u→recoverD (A::cs)=some (v,{ A with mode:=G }::cs)∨(recoverD (A::cs)=none∧v= .nilIface∧G=u))
 (h:∀w0,Ready I H w0→Cj ⟨P,fn.ntmps,w0,H.map (·.1),I,[],none⟩ (bodyPost P fn (RR w0 (H.map (·.1)) I fun e O H'=>(∃x,e= .returned x)∧Z G O H')) rest ((t2,v)::(t1,v)::TI 0 args) I H):
 XA P f args u I H Z:=by
 refine⟨⟨fn,hf,a0,by simp[hb]⟩,fun w hw=>?_⟩;refine callsD_of_wpS hf hb fun A cs hc=>?_;have ab:=cZ w I H hw.1 hw.2.1 hw.2.2.1 hw.2.2.2;have ha:=fB args fn.ntmps hn;have ac:=(ha.put (v:=v) a1).put (v:=v) aa;have ad:=ha.size;have a3:t1<fn.ntmps:=by simpa[Nat.blt_eq]using a1
 refine wpS_seq ?_;refine b4s a4 a5 a6 a7 a8 a9 (by rw[ad];exact a3) (v:=v) (cs':={ A with mode:=G }::cs) ?_ ?_
 ·rcases a2 A cs hc with h|⟨h1,h2,h3⟩
  ·exact .inl h
  exact .inr ⟨h1,h2,by rw[h3,←hc]⟩
 show rest.wpS P (bodyPostS P fn A cs _) _ ({ A with mode:=G }::cs) w;refine wpS_of_wp ?_;refine Code.wp_mono (fun x a w' hq=>?_) ((h w hw).wp rfl ac ab);cases x with
 |normal=>obtain⟨h1,y,h2,O,H',h3,h4,h5⟩:=hq;exact⟨h1,G,rfl,y,h2,⟨y,rfl⟩,O,H',h3,h5⟩
 |ret=>obtain⟨h1,y,h2,O,H',h3,h4,h5⟩:=hq;exact⟨h1,G,rfl,y,h2,⟨y,rfl⟩,O,H',h3,h5⟩
 |panic ch=>obtain⟨h1,O,H',h3,⟨x,h4⟩,h5⟩:=hq;cases h4
 |exit id=>exact hq.elim
 |goto l=>exact hq.elim
 |outgrown=>obtain⟨O,H',h3,⟨x,h4⟩,h5⟩:=hq;cases h4
theorem a7F{P w T t u ms}(h:P.underlying T=some (.interface ms)):(binOp .neq T (.iface t u) .nilIface).run P w= .ok (.bool true) w∧(binOp .neq T .nilIface .nilIface).run P w= .ok (.bool false) w
 ∧(binOp .eql T (.iface t u) .nilIface).run P w= .ok (.bool false) w∧(binOp .eql T .nilIface .nilIface).run P w= .ok (.bool true) w:=by
 have h1:∀d:Nat,(aV (d+1) T (.iface t u) .nilIface).run P w= .ok false w:=fun d=>by simp[aV,run_underlying h]
 have h2:∀d:Nat,(aV (d+1) T .nilIface .nilIface).run P w= .ok true w:=fun d=>by simp[aV,run_underlying h]
 simp only[binOp];simp[Op.equal,eF,h1 9999,h2 9999]
theorem b7i{S:World→Prop}{x y T U t u ms}(A:o.op= .binOp .neq T x y U)(G:ev e x=some (.iface t u))(O:ev e y=some .nilIface)(Z:cx.P.underlying T=some (.interface ms)):DK cx o e S (.bool true):=by
 intro a w h _;have hb:=(a7F (P:=cx.P) (w:=w) (t:=t) (u:=u) Z).1;have hg:eqGuard .neq T x y (.iface t u) .nilIface=pure ():=rfl;simp[execOp,A,h.eval G,h.eval O,hb,hg]
theorem b7z{S:World→Prop}{x h T U ms}(A:o.op= .binOp .neq T x (.const h) U)(G:ev e x=some .nilIface)(O:h= .nilIface)(Z:cx.P.underlying T=some (.interface ms)):DK cx o e S (.bool false):=by
 intro a w ha _;subst O;have hb:=(a7F (P:=cx.P) (w:=w) (t:=0) (u:=undef) Z).2.1;have hg:eqGuard .neq T x (.const .nilIface) .nilIface .nilIface=pure ():=by unfold eqGuard;simp
 have he:a.eval (.const .nilIface)= .nilIface:=rfl;simp[execOp,A,ha.eval G,he,hb,hg]
theorem a7c{S:World→Prop}{x T U v d}(h:o.op= .typeAssert x T U true)(A:ev e x=some (.iface U v))(G:cx.P.underlying U=some d)(hn:(match d with| .interface _=>false|_=>true)=true):DK cx o e S (.tuple #[v,.bool true]):=by
 intro a w O _;have hr:(eG (.iface U v) T U true).run cx.P w= .ok (.tuple #[v,.bool true]) w:=by
  unfold eG;simp only[aF,run_underlying G,aB];cases d<;>simp_all
 simp[execOp,h,O.eval A,hr]
end
def Rj (cx:Cx) (Q:Qt) (c:Code) (n:Nat) (e:Env) (I:Heap) (H:HL):Prop:=∀a w,Has a cx.n e cx.ds→St cx.w0 cx.D cx.I0 I H w→Code.rounds cx.P c Q n a w
section
variable {cx:Cx} {Q:Qt} {e:Env} {I:Heap} {H:HL} {o:Oper} {C:Ct} {S:World→Prop}
theorem Cj.rounds n {c}(h:Rj cx Q c n e I H)(hr:cx.rd=none:=by rfl):Cj cx Q (.loop c) e I H:=Cj.of_wp hr fun a w A hs=>wp_loop_rounds n (h a w A hs)
theorem Rj.succ{c n}(h:Cj cx (Exit.then (Code.rounds cx.P c Q n) Q) c e I H)(hr:cx.rd=none:=by rfl):Rj cx Q c (n+1) e I H:=fun _ _ A hs=>h.wp hr A hs
theorem Ej.rounds{c n}(h:Rj cx Q c n e I H):Ej cx (Exit.then (Code.rounds cx.P c Q n) Q) .normal e I H:=fun a w A hs=>h a w A hs
theorem FD{x y T E b off n sz off' k i}(O:o.op= .indexAddr T x y)(Z:ev e x=some (ptr b off))(hy:ev e y=some (.int k i))
 (hu:cx.P.underlying T=some (.array n E))(A:∀w,(sizeOf E).run cx.P w= .ok sz w)(h0:0≤i)(h1:i<n)(h:off+i.toNat*sz=off'):DK cx o e S (ptr b off'):=by
 intro a w G _;subst h;simp[execOp,O,G.eval Z,G.eval hy,Instr.indexAt,Instr.sureAddr,asIntOf,run_underlying hu,h0,h1,A,dD]
theorem a4i{P w T E n c} p (h:P.underlying T=some (.slice E)):(binOp .neq T (.slice p n c) (.slice none 0 0)).run P w= .ok (.bool p.isSome) w∧(binOp .eql T (.slice p n c) (.slice none 0 0)).run P w= .ok (.bool p.isNone) w:=by
 have h1:∀d:Nat,(aV (d+1) T (.slice p n c) (.slice none 0 0)).run P w= .ok p.isNone w:=fun d=>by cases p<;>simp[aV,run_underlying h]
 simp only[binOp];cases p<;>simp[Op.equal,eF,h1 9999]
theorem a0p{x y T U E n c} p (A:o.op= .binOp .neq T x y U)(G:ev e x=some (.slice p n c))(O:ev e y=some (.slice none 0 0))(Z:cx.P.underlying T=some (.slice E)):DK cx o e S (.bool p.isSome):=by
 intro a w h _;have hb:=(a4i (P:=cx.P) (w:=w) (n:=n) (c:=c) p Z).1;have hg:eqGuard .neq T x y (.slice p n c) (.slice none 0 0)=pure ():=rfl;simp[execOp,A,h.eval G,h.eval O,hb,hg]
theorem a6d{x y T U E n c} p (A:o.op= .binOp .eql T x y U)(G:ev e x=some (.slice p n c))(O:ev e y=some (.slice none 0 0))(Z:cx.P.underlying T=some (.slice E)):DK cx o e S (.bool p.isNone):=by
 intro a w h _;have hb:=(a4i (P:=cx.P) (w:=w) (n:=n) (c:=c) p Z).2;have hg:eqGuard .eql T x y (.slice p n c) (.slice none 0 0)=pure ():=rfl;simp[execOp,A,h.eval G,h.eval O,hb,hg]
theorem made1 z c:madeCells #[z] c=(bP c z).toArray:=by
 apply dA
 intro i;unfold madeCells
 by_cases h:i<c
 ·simp[h,Nat.mod_one]
 simp[h]
theorem a4R{T E d by1 n c:Nat}{x y kl O z}(ho:o.op= .makeSlice T x y)(hd:o.dst=some d)(hn:aK d cx.n=true)(hx:ev e x=some (.int kl (n:Int)))(hy:ev e y=some (.int O (c:Int)))
 (hu:cx.P.underlying T=some (.slice E))(Z:(cx.P.info? E).map (fun i=>(i.bytes,i.size,i.zero))=some (by1,1,some z))(a0:z.cells= #[z])(a2:n≤c)(hb:by1*c≤281474976710656)(a3:c≤9223372036854775807)
 (k:∀b,cx.w0.heap.size≤b→C ((d,.slice (some ⟨b,0,none⟩) n c)::e) I ((b,yY E (bP c z))::H)):GZ cx Q o e I H C:=by
 intro K hK a w G hs;unfold aW;obtain⟨i,hi,A⟩:=bQ.1 Z;simp only[fC]at A;obtain⟨h1,h2,h3⟩:=A;have a1:(i.bytes:Int)*(c:Int)≤281474976710656:=by
  have h:((by1*c:Nat):Int)≤281474976710656:=oM;rw[h1]
  rwa [Int.natCast_mul]at h
 have hr:=run_make (P:=cx.P) w T E i z hu hi h3 kl O n c oM oM a1 oM;have:(execOp a.eval o).run cx.P w= .ok (.value (.slice (some ⟨w.heap.size,0,none⟩) n c)) (w.alloc (yY E (bP c z))):=by
  simp[execOp,ho,G.eval hx,G.eval hy,hr,h2,a0,made1,yY]
 rw[this];simp only[aJ,hd];exact hK _ _ _ (k _ hs.size) _ _ (G.put hn) (hs.alloc _)
theorem b1v{x y}{T E b off n c sz j:Nat}{kl}(O:o.op= .slice T x (some y) none none)(Z:ev e x=some (.slice (some ⟨b,off,none⟩) n c))(hy:ev e y=some (.int kl (j:Int)))(hu:cx.P.underlying T=some (.slice E))(h:∀w,(sizeOf E).run cx.P w= .ok sz w)(hj:j≤n)(hc:j<c):
 DK cx o e S (.slice (some ⟨b,off+j*sz,none⟩) (n-j) (c-j)):=by
 intro a w A _;have G:¬c=j:=oM;have h1:(j:Int)≤n:=oM;simp[execOp,O,A.eval Z,A.eval hy,Instr.sliceAt,Instr.slice,run_underlying hu,Instr.sliceBounds,run_sliceBound,h1,h,G,dD]
theorem c4F{x y T U E d b off n c m Z} i {cs cs' ys H'}(ho:o.op= .call ⟨.builtin .copy,#[x,y],#[T,U]⟩)(hd:o.dst=some d)(hn:aK d cx.n=true)(hx:ev e x=some (.slice (some ⟨b,off,none⟩) n c))(hy:ev e y=some Z)
 (A:cx.P.underlying T=some (.slice E))(a0:∀w,(sizeOf E).run cx.P w= .ok 1 w)(a1:Src cx.P I H 1 m Z ys)(a2:m≤n)(hH:H[i]?=some (b,yY E cs))(h:zM cs off ys cs')(a3:AV H i (b,yY E cs') H')
 (k:C ((d,i64 m)::e) I H'):GZ cx Q o e I H C:=by
 intro K hK a w G hs;unfold aW;obtain⟨_,a4,a5,a6⟩:=a1;have hb:=hs.own _ (aG hH);have a7:=OA (P:=cx.P) (t:=E) ys 0 w cs hb (.inl rfl) h.1 (fun u A=>(List.all_eq_true.1 a4) u A) cs' h;have O:Nat.min m n=m:=eX a2;have:(execOp a.eval o).run cx.P w= .ok (.value (i64 m)) (aH w b (yY E cs')):=by
  simp[execOp,ho,resolve,invoke,builtin,G.eval hx,G.eval hy,Builtin.copy_,run_underlying A,a5 w hs.ss,O,a0,a6 w hs.ss,a7,goInt,yY]
 rw[this];simp only[aJ,hd];exact hK _ _ _ k _ _ (G.put hn) (hs.block hH a3)
theorem b9T{H1 R d f T te fo nm xs ts vs q}{G:Ending→Heap→HL→Prop}
 (ho:o.op= .call ⟨.invoke fo nm,xs.toArray,ts⟩)(hd:o.dst=some d)(hn:aK d cx.n=true)(hf:ev e fo=some (.iface T (.pointer q)))(hx:evs e xs=some vs)
 (hm:((cx.P.info? T).bind fun i=>i.methods.find? (·.name == nm)).map (fun m=>(m.path.isEmpty,m.func))=some (true,some (f,true)))(hu:cx.P.underlying T=some (.pointer te))
 (hs:yT cx.P f (.pointer q::vs) I H1 G)
 (k:∀v A h,Le I A→G (.returned v) A h→C ((d,v)::e) A (h++R))
 (kp:∀ch A h,Le I A→G (.panicked ch) A h→Ej cx Q (.panic ch) e A (h++R))
 (ko:∀A h,¬G .outgrown A h):GZ cx Q o e I (H1++R) C:=by
 intro K hK a w ha Z;unfold aW;have hr:(execOp a.eval o).run cx.P w= .ok (.enter f (.pointer q::vs).toArray) w:=by
  have a7:xs.toArray.map a.eval=vs.toArray:=by rw[bT,ha.a0u hx]
  obtain⟨m,a8,a4⟩:=bQ.1 hm;obtain⟨i,hi,a9⟩:=Option.bind_eq_some_iff.1 a8;simp only[fC]at a4;obtain⟨O,aa⟩:=a4;have ab:m.path.toList=[]:=by
   have:m.path= #[]:=by simpa using O
   rw[this]
  have a2:=OH hs.1 (.pointer q::vs).toArray w;have a3:∀n:Nat,(method (n+1) T (.pointer q) nm).run cx.P w= .ok (f,.pointer q) w:=fun n=>by
   simp[method,typeInfo,hi,a9,ab,follow,aa,receiverAt,run_underlying hu,Place.get]
  have ac:∀n:Nat,(method (n+Made.depth) T (.pointer q) nm).run cx.P w= .ok (f,.pointer q) w:=fun n=>a3 (n+(Made.depth-1));simp only[execOp,ho,resolve,a7,ha.eval hf,invoke,aF,aP,aB,callMethod];simp[ac,a2]
 rw[hr];simp only[aJ];have a0:Ready I H1 w:=⟨Z.sub,fun p O=>Z.own p (aC _ O),by
  have:=Z.nodup;rw[aY,bF]at this;exact this.1,fun p O=>Z.dis p (aC _ O)⟩
 refine(hs.2 w a0).mono ?_;rintro en w' ⟨A,h,a5,O⟩;have a6:=a5.le;have a1:=Z.call a5;cases en with
 |returned v=>
  rw[hd];exact hK _ _ _ (k v A h a6 O) _ _ (ha.put hn) a1
 |panicked ch=>exact kp ch A h a6 O _ _ ha a1
 |outgrown=>exact(ko _ _ O).elim
end
theorem St.set1{w I b T off cs v}(hr:Ready I [(b,yY T cs)] w):St w [b] I I [(b,yY T (cs.set off v))] (w.setCell ⟨b,off,none⟩ v):=by
 have A:w.heap[b]?=some (yY T cs):=hr.2.1 (b,yY T cs) (.head _);have h:St w [b] I I [(b,yY T cs)] w:=cZ w I [(b,yY T cs)] hr.1 hr.2.1 hr.2.2.1 hr.2.2.2;rw[a3X (fr:=(0,0)) A];exact h.block (i:=0) rfl dP
theorem yT.a7o{P f args I b T off cs x y v}(A:Enters P f)(G:cs[off]?=some x)
 (h:∀w,w.cell? ⟨b,off,none⟩=some x→w.frozen? ⟨b,off,none⟩=false→Calls P f args.toArray w fun e w'=>e= .returned v∧w'=w.setCell ⟨b,off,none⟩ y):
 yT P f args I [(b,yY T cs)] (fun e O H'=>e= .returned v∧H'=[(b,yY T (cs.set off y))]):=
 ⟨A,fun w hr=>(h w (cell_of_heap (hr.2.1 _ (.head _)) G) (by have:=hr.2.1 _ (.head _);simp only at this;simp[fD,this,yY])).mono fun e w' ⟨h1,h2⟩=>⟨I,_,h2▸St.set1 hr,h1,rfl⟩⟩
theorem yT.c5Y{P f args I b T off cs x v}(A:Enters P f)(G:cs[off]?=some x)
 (h:∀w,w.cell? ⟨b,off,none⟩=some x→Calls P f args.toArray w fun e w'=>e= .returned v∧w'=w):
 yT P f args I [(b,yY T cs)] (fun e O H'=>e= .returned v∧H'=[(b,yY T cs)]):=
 ⟨A,fun w hr=>(h w (cell_of_heap (hr.2.1 _ (.head _)) G)).mono fun _ _ ⟨h1,h2⟩=>⟨I,_,h2▸cZ w I _ hr.1 hr.2.1 hr.2.2.1 hr.2.2.2,h1,rfl⟩⟩
theorem XA.a7o{P f args u I b T off cs x y v}(G:Enters P f)(O:cs[off]?=some x)
 (h:∀w,w.cell? ⟨b,off,none⟩=some x→w.frozen? ⟨b,off,none⟩=false→CallsD P f args.toArray u w fun e A w'=>A=u∧(e= .returned v∧(w'=w.setCell ⟨b,off,none⟩ y∨w'=w.drew.setCell ⟨b,off,none⟩ y))):
 XA P f args u I [(b,yY T cs)] (fun A Z H'=>A=u∧H'=[(b,yY T (cs.set off y))]):=
 ⟨G,fun w hr=>(h w (cell_of_heap (hr.2.1 _ (.head _)) O) (by have:=hr.2.1 _ (.head _);simp only at this;simp[fD,this,yY])).mono fun e A w' ⟨h0,h1,h2⟩=>⟨⟨v,h1⟩,I,_,by
  have hs:=St.set1 (off:=off) (v:=y) hr;rcases h2 with h2|h2
  ·rw[h2];exact hs
  rw[h2];exact hs.drew,h0,rfl⟩⟩
def tab (f:Nat→Value) (tr:Value):List Value:=(List.range 256).map f++[tr]
theorem QU f tr:(tab f tr).length=257:=by simp[tab]
theorem UE f tr {i}(h:i<256):(tab f tr)[i]?=some (f i):=by
 unfold tab;rw[bK (by simpa using h)];simp[h]
theorem a8t f tr:(tab f tr)[256]?=some tr:=by
 unfold tab;rw[bJ sI];simp
theorem c4Z f tr v {i}(h:i<256):(tab f tr).set i v=tab (fun j=>if j=i then v else f j) tr:=by
 apply List.ext_getElem?
 intro j;rw[dY];rcases dV j 256 with G|G
 ·rw[UE _ _ G,UE _ _ G]
  by_cases A:i=j
  ·subst A;simp[QU];omega
  have:¬j=i:=fun O=>A O.symm;simp[A,this]
 have A:¬i=j:=oM;simp only[A,if_false];unfold tab;rw[bJ (by simpa using G),bJ (by simpa using G)];simp
theorem b8W f tr v:(tab f tr).set 256 v=tab f v:=by
 unfold tab;rw[dQ _ _ sI];simp
theorem c5k{f tr}(hf:∀i,(f i).oneCell'=true)(h:tr.oneCell'=true):(tab f tr).all fA=true:=by
 unfold tab;simp[hf,h]
theorem c4I f a v:zM (tab f a) 256 [v] (tab f v):=by
 refine⟨by simp[QU],?_⟩;unfold tab;rw[bZ sI,dK sI,bD sI];simp
theorem zM.all{l xs:List Value}(h:l.length=xs.length):zM l 0 xs xs:=⟨by simp[h],by simp[←h]⟩
theorem a9N n g:(gV n g).cells= #[gV n g]:=by cases g<;>rfl
theorem b4O n g:(gV n g).oneCell'=true:=by cases g<;>rfl
def a5z (I:Heap) (l:List UInt8) (v:Value):Prop:=∃b c sp fr,v= .slice (some ⟨b,0,none⟩) l.length c∧I b=some (.cells (EP l++sp).toArray 5 fr)
theorem a5z.mono{I A l v}(h:a5z I l v)(G:Le I A):a5z A l v:=let ⟨b,c,sp,fr,h1,h2⟩:=h;⟨b,c,sp,fr,h1,G _ _ h2⟩
section
variable {cx:Cx} {Q:Qt} {e:Env} {I:Heap} {H:HL}
theorem Ej.c6Q{fn}{h:Ending→Heap→HL→Prop}{H1 H2 H3 R1 f1 f2 G a0 O a1}(a3:cx.ds=[⟨.fn (.func f1) G.toArray,a0.toArray⟩,⟨.fn (.func f2) O.toArray,a1.toArray⟩])
 (h1:XA cx.P f1 (a0++G) .returning I H1 fun Z a9 H'=>Z= .returning∧H'=H2)(h2:∀A,XA cx.P f2 (a1++O) .returning A H2 fun Z a8 H'=>Z= .returning∧H'=H3)
 (k:∀A,Le I A→a4m cx fn h e A (H3++R1)):Ej cx (bodyPostD cx.P fn (RR cx.w0 cx.D cx.I0 h)) .normal e I (H1++R1):=by
 intro a w ha a4;show Leaves cx.P fn a.tmps (RR cx.w0 cx.D cx.I0 h) a.defers .returning w;rw[ha.defs,a3];refine a3O sI h1 a4 ?_;rintro Z A _ w' a5 ⟨rfl,rfl⟩ a6;refine a3O (by simp[]) (h2 A) a6 ?_;rintro _ I2 _ w2 a2 ⟨rfl,rfl⟩ a7;exact k I2 (a5.trans a2) a w2 ha a7
theorem a4m.none{fn}{h:Ending→Heap→HL→Prop}(hr:fn.results= #[])(A:h (.returned (.tuple #[])) I H):a4m cx fn h e I H:=
 fun _ _ _ hs=>⟨.tuple #[],results_none hr _ _ _,I,H,hs,A⟩
end
end Go.Sx
namespace Go.Proofs.YtojdemmgkdokmaaGreatDoor.Sync
open _root_.Go.Proofs.Tryz
open Go Go.Sx
theorem disable w:(callFunc 346 #[]).run aN w= .ok (.value (.tuple #[])) w:=run_call_mark0 func346 kR kR kR .disable kR w
theorem enable w:(callFunc 348 #[]).run aN w= .ok (.value (.tuple #[])) w:=run_call_mark0 func348 kR kR kR .enable kR w
theorem acquire a w:(callFunc 349 #[.pointer (some a)]).run aN w= .ok (.value (.tuple #[])) w:=run_call_marked func349 kR kR kR .acquire kR a w
theorem releaseMerge a w:(callFunc 351 #[.pointer (some a)]).run aN w= .ok (.value (.tuple #[])) w:=run_call_marked func351 kR kR kR .releaseMerge kR a w
theorem store_deferred a x u w (Z:w.cell? a=some x)(hz:w.frozen? a=false):
 CallsD aN 313 #[.pointer (some a),.bool true] u w fun e G w'=>G=u∧(e= .returned (.tuple #[])∧w'=w.drew.setCell a (.int .u32 1)):=by
 have h:w.drew.cell? a=some x:=by go_simp
 have A:w.drew.frozen? a=false:=by go_simp
 have O:=run_call_store (P:=aN) func335 kR kR kR kR (k:= .u32) (y:=1) h A
 go_enter_d func313,Tryz.ntmps313
 go_wp2
 go_region_calls
 all_goals (go_end0;exact rT)
theorem unlock_deferred a u w (h:w.cell? a=some (.int .i32 1))(hz:w.frozen? a=false):
 CallsD aN 312 #[.pointer (some a)] u w fun e A w'=>A=u∧(e= .returned (.tuple #[])∧w'=w.setCell a (.int .i32 0)):=by
 have hd:=disable;have Z:=enable;have hr:=releaseMerge;have G:=run_call_add (P:=aN) func352 kR kR kR .i32 kR (y:= -1) (s:=0) h hz (by simp[go_sem];rfl);have O:=run_convert_to_unsafe (P:=aN) (src:=450) (dst:=371) underlying450 b0X kR h
 go_enter_d func312,Tryz.ntmps312
 go_wp2
 go_end0
 go_wp2
 go_end0
 exact rT
theorem lock_free a w (h:w.cell? a=some (.int .i32 0))(hz:w.frozen? a=false):
 Calls aN 311 #[.pointer (some a)] w fun e w'=>e= .returned (.tuple #[])∧w'=w.setCell a (.int .i32 1):=by
 have hd:=disable;have Z:=enable;have ha:=acquire;have G:=run_call_cas_hit (P:=aN) func347 kR kR kR .i32 kR (y:=1) h hz;have A:(w.setCell a (.int .i32 1)).cell? a=some (.int .i32 1):=World.cell?_setCell_same w a _ h;have O:=run_convert_to_unsafe (P:=aN) (src:=450) (dst:=371) underlying450 b0X kR A
 go_enter func311,Tryz.ntmps311
 go_wp2
 first|go_end0|(simp only[Exit.inBlock,Exit.then];refine bodyPost_ret (results_none rfl _ _ _) rfl ?_)|refine bodyPost_ret (results_none rfl _ _ _) rfl ?_
 go_wp2
 go_end0
 exact rT
theorem b7X a x w (h:w.cell? a=some (.int .u32 x)):
 Calls aN 284 #[.pointer (some a)] w fun e w'=>e= .returned (.bool (x != 0))∧w'=w:=by
 have A:=run_call_load (P:=aN) func310 kR kR kR .u32 kR h
 go_enter func284,Tryz.ntmps284
 go_wp2
 go_ret
 exact rT
end Go.Proofs.YtojdemmgkdokmaaGreatDoor.Sync
namespace Go.Sx
open Go
def YC (P:Program) (l:Nat) (args:List Value) (I:Heap) (H:HL) (post:Ending→Heap→HL→Prop):Prop:=
 ∀w,Ready I H w→∃f tmps assign body,(Instr.yield l args.toArray).run P w= .ok (.round l f tmps assign body) w∧RoundIn aZ 0 P l f tmps assign body w (RR w (H.map (·.1)) I post)
theorem b4a{rd n P l f tmps assign body w}{R:Ending→World→Prop}(h:RoundIn aZ n P l f tmps assign body w R):RoundIn { aZ with round:=rd } n P l f tmps assign body w R:=by
 cases rd with
 |none=>exact h
 |some l=>exact h
section
variable {cx:Cx} {Q:Qt} {o:Oper} {e:Env} {I:Heap}
theorem b3I{H1 R d l fo xs ts vs}{O:Ending→Heap→HL→Prop}{K:Act→World→Prop}
 (ho:o.op= .call ⟨.value fo,xs.toArray,ts⟩)(hd:o.dst=some d)(hn:aK d cx.n=true)(hf:ev e fo=some (.func (.yield l) #[] #[]))(hx:evs e xs=some vs)(hs:YC cx.P l vs I H1 O)
 (k:∀v Z A,Le I Z→O (.returned v) Z A→∀a w,Has a cx.n ((d,v)::e) cx.ds→St cx.w0 cx.D cx.I0 Z (R++A) w→K a w)
 (kp:∀ch Z A,¬O (.panicked ch) Z A)(ko:∀Z A,¬O .outgrown Z A){a w}(ha:Has a cx.n e cx.ds)(G:St cx.w0 cx.D cx.I0 I (R++H1) w):o.wpIn cx.F 0 cx.P a w K Q:=by
 replace G:=G.perm (H':=H1++R) dR;have a0:Ready I H1 w:=⟨G.sub,fun p hp=>G.own p (aC _ hp),by
  have:=G.nodup;rw[aY,bF]at this;exact this.1,fun p hp=>G.dis p (aC _ hp)⟩
 obtain⟨f,tmps,assign,body,h1,h2⟩:=hs w a0;have hr:(execOp a.eval o).run cx.P w= .ok (.round l f tmps assign body) w:=by
  have a3:xs.toArray.map a.eval=vs.toArray:=by
   rw[bT,ha.a0u hx]
  simp only[execOp,ho,resolve,a3,ha.eval hf,bG,invoke,aF,aP,aB,Array.empty_append,h1]
 refine⟨fun _ _=>trivial,?_⟩;have he:o.semAt cx.F.round a.eval=execOp a.eval o:=Oper.semAt_eq _ _ _ (fun c hc=>by rw[ho]at hc;cases hc);rw[he,hr];refine⟨fun h=>by simp[Cx.F,aZ]at h,?_⟩;refine RoundIn.mono (b4a (rd:=cx.rd) h2) ?_;rintro en w' ⟨Z,A,a1,hp⟩;have a4:=a1.le;have a2:=(G.call a1).perm (H':=R++A) dR;cases en with
 |returned v=>
  rw[hd];exact k v Z A a4 hp _ _ (ha.put hn) a2
 |panicked ch=>exact(kp _ _ _ hp).elim
 |outgrown=>exact(ko _ _ hp).elim
theorem J.yield{Z r H1} R {d l fo xs ts vs}{A:Ending→Heap→HL→Prop}
 (hg:o.guard=none)(ho:o.op= .call ⟨.value fo,xs.toArray,ts⟩)(hd:o.dst=some d)(hn:aK d cx.n=true)(hf:ev e fo=some (.func (.yield l) #[] #[]))(hx:evs e xs=some vs)(hs:YC cx.P l vs I H1 A)
 (k:∀v G h,Le I G→A (.returned v) G h→J cx Q Z r ((d,v)::e) G (R++h))
 (kp:∀ch G h,¬A (.panicked ch) G h)(ko:∀G h,¬A .outgrown G h):J cx Q Z (o::r) e I (R++H1):=
 fun _ _ ha O=>wpListIn_plain hg fun _ hK=>b3I ho hd hn hf hx hs (fun v G h a0 hp a w ha O=>hK a w (k v G h a0 hp a w ha O)) kp ko ha O
theorem J.c6k{O r H1} R {d l fo xs ts vs}{A:Ending→Heap→HL→Prop} j dj Z b
 (hg:o.guard=some (j,Z))(a1:(O[j]?).bind (·.dst)=some dj)(hv:eg e dj=some (.bool b))(hb:b=Z)(ho:o.op= .call ⟨.value fo,xs.toArray,ts⟩)(hd:o.dst=some d)(hn:aK d cx.n=true)(hf:ev e fo=some (.func (.yield l) #[] #[]))(hx:evs e xs=some vs)(hs:YC cx.P l vs I H1 A)
 (k:∀v G h,Le I G→A (.returned v) G h→J cx Q O r ((d,v)::e) G (R++h))
 (kp:∀ch G h,¬A (.panicked ch) G h)(ko:∀G h,¬A .outgrown G h):J cx Q O (o::r) e I (R++H1):=by
 intro a w ha a0;refine wpListIn_step fun K hK=>?_;rw[zG (by simp[dS,hg,VH ha a1 hv,hb])];exact b3I ho hd hn hf hx hs (fun v G h a2 hp a w ha a0=>hK a w (k v G h a2 hp a w ha a0)) kp ko ha a0
end
def YS (P:Program) (l:Nat) (xs:List (List Value)) (Y:Nat→Heap→HL→Prop) (Z:Heap→HL→Prop):Prop:=
 ∀k args,xs[k]?=some args→∀I H,Y k I H→YC P l args I H (fun e I' H'=>(e= .returned (.bool true)∧Y (k+1) I' H')∨(e= .returned (.bool false)∧Z I' H'))
def Gen (P:Program) (f:FuncId) (fst cap:List Value) (I:Heap) (xs:List (List Value)):Prop:=
 Enters P f∧∀(l:Nat) (Y:Nat→Heap→HL→Prop) (Z:Heap→HL→Prop),(∀k I1 I2 H,Le I1 I2→Y k I1 H→Y k I2 H)→YS P l xs Y Z→
  ∀H,Y 0 I H→yT P f (fst++[.func (.yield l) #[] #[]]++cap) I H (fun e I' H'=>e= .returned (.tuple #[])∧(Y xs.length I' H'∨Z I' H'))
def a7M:List Tmp→List Value→Env→Env
 |t::ps,v::vs,e=>a7M ps vs ((t,v)::e)
 |_,_,e=>e
theorem Has.zip{n}:∀(ps:List Tmp) (vs:List Value) (e:Env) (tmps:Array Value),(∀t∈ps,aK t n=true)→Has ⟨tmps,[]⟩ n e []→Has ⟨(ps.zip vs).foldl (fun tmps (x:Tmp×Value)=>tmps.setIfInBounds x.1 x.2) tmps,[]⟩ n (a7M ps vs e) []
 |[],_,_,_,_,h=>h
 |_::_,[],_,_,_,h=>h
 |t::ps,_v::vs,_e,tmps,hn,h=>Has.zip ps vs _ _ (fun u A=>hn u (.tail _ A)) (Has.put (a:=⟨tmps,[]⟩) h (hn t (.head _)))
def c3k (cx:Cx) (l:Nat) (r:Loop) (body:Code) (Q:Qt):Qt
 | .normal,a,w=>∃e I H,Has a cx.n e cx.ds∧St cx.w0 cx.D cx.I0 I ((l,.loop r)::H) w∧Cj cx Q body e I ((l,.loop { r with state:= .busy })::H)
 |_,_,_=>False
def RdQ (cx:Cx) (l:Nat) (r:Loop) (Y:Heap→HL→Prop) (Z:Code→Heap→HL→Prop):Qt
 | .normal,_,w=>∃I H,St cx.w0 cx.D cx.I0 I ((l,.loop { r with state:= .busy })::H) w∧Y I H
 | .ret,_,w=>∃I H,St cx.w0 cx.D cx.I0 I ((l,.loop { r with state:= .busy })::H) w∧Z .ret I H
 | .exit id,_,w=>∃I H,St cx.w0 cx.D cx.I0 I ((l,.loop { r with state:= .busy })::H) w∧Z (.exit id) I H
 |_,_,_=>False
section
variable {cx:Cx} {Q:Qt} {e:Env} {I:Heap} {H:HL} {l:Nat} {r:Loop} {Y:Heap→HL→Prop} {Z:Code→Heap→HL→Prop}
theorem Ej.asg{body}(k:Cj cx Q body e I ((l,.loop { r with state:= .busy })::H)):Ej cx (c3k cx l r body Q) .normal e I ((l,.loop r)::H):=
 fun _ _ h hs=>⟨e,I,H,h,hs,k⟩
theorem Ej.a3D(h:Y I H):Ej cx (RdQ cx l r Y Z) .normal e I ((l,.loop { r with state:= .busy })::H):=fun _ _ _ hs=>⟨I,H,hs,h⟩
theorem Ej.c6u{id}(h:Z (.exit id) I H):Ej cx (RdQ cx l r Y Z) (.exit id) e I ((l,.loop { r with state:= .busy })::H):=fun _ _ _ hs=>⟨I,H,hs,h⟩
abbrev OG (b:Nat):Deferred:={ target:= .collected b,args:= #[] }
theorem Cj.rangeFunc{g ps assign body f a6 a7 H1 R} xs (Y:Nat→Heap→HL→Prop)(Z:Code→Heap→HL→Prop)
 (hr:cx.rd=none)(aj:∀t∈ps,Nat.blt t cx.n=true)(ag:∀args∈xs,args.length=ps.length)(hg:ev e g=some (.func (.func f) a6.toArray a7.toArray))(aa:Gen cx.P f a6 a7 I xs)
 (ad:∀k O I2 H,Le O I2→Y k O H→Y k I2 H)(h0:Y 0 I H1)
 (round:∀l r k args O G w0,xs[k]?=some args→Le I O→Y k O G→
  Cj ⟨cx.P,cx.n,w0,l::G.map (·.1),O,[],some l⟩ (c3k ⟨cx.P,cx.n,w0,l::G.map (·.1),O,[],some l⟩ l r body (RdQ ⟨cx.P,cx.n,w0,l::G.map (·.1),O,[],some l⟩ l r (Y (k+1)) Z)) assign (a7M ps args e) O ((l,.loop r)::G))
 (done:∀b I' H',Le I I'→Y xs.length I' H'→Ej { cx with ds:=OG b::cx.ds } Q .normal e I' ((b,.deferred (some []))::(H'++R)))
 (left:∀b c I' H',Le I I'→Z c I' H'→Cj { cx with ds:=OG b::cx.ds } Q c e I' ((b,.deferred (some []))::(H'++R))):
 Cj cx Q (.rangeFunc g ps.toArray assign body) e I (H1++R):=by
 intro a w ha ak;rw[Cx.wide hr];refine wpIn_rangeFunc fun fn _=>?_;obtain⟨r,a0⟩:∃r:Loop,r={ state:= .ready,pending:=none,fn:=fn,tmps:=a.tmps,params:=ps.toArray,assign:=assign,body:=body,defers:=w.heap.size }:=⟨_,rfl⟩;obtain⟨l,hl⟩:∃l,l=w.heap.size+1:=⟨_,rfl⟩;have a3:St cx.w0 cx.D cx.I0 I (((l,.loop r)::H1)++((w.heap.size,.deferred (some []))::R)) ((w.alloc (.deferred (some []))).alloc (.loop r)):=by
  have h1:=(ak.alloc (.deferred (some []))).alloc (.loop r);have h2:(w.heap.push (.deferred (some []))).size=l:=by rw[hl,Array.size_push]
  rw[h2]at h1;refine h1.perm ?_;show((l,Obj.loop r)::(H1++(w.heap.size,Obj.deferred (some []))::R)).Perm _;exact List.Perm.cons _ dF
 let Y':Nat→Heap→HL→Prop:=fun k O H=>Le I O∧∃G,H=(l,.loop r)::G∧Y k O G
 let Z':Heap→HL→Prop:=fun O H=>∃c G,H=(l,.loop { r with state:= .done,pending:=some c })::G∧Z c O G
 have al:YS cx.P l xs Y' Z':=by
  rintro k args hk O H ⟨hle,G,rfl,hY⟩ w1 A;have am:w1.heap[l]?=some (.loop r):=A.2.1 _ (.head _);have an:=ag args (aG hk);refine⟨r.fn,_,r.assign,r.body,run_yield am (by rw[a0];simp[an]),roundIn_of_wpIn trivial ?_⟩;have hz:(r.params.zip args.toArray).foldl (fun tmps (x:Tmp×Value)=>tmps.setIfInBounds x.1 x.2) r.tmps=(ps.zip args).foldl (fun tmps (x:Tmp×Value)=>tmps.setIfInBounds x.1 x.2) a.tmps:=by
   rw[a0];simp[List.zip_toArray]
  have ab:=Has.zip (n:=cx.n) ps args e a.tmps aj ⟨ha.size,rfl,ha.get⟩;rw[←hz]at ab;have hc:=round l r k args O G w1 hk hle hY _ _ ab (cZ w1 O ((l,.loop r)::G) A.1 A.2.1 A.2.2.1 A.2.2.2);have e1:r.assign=assign:=by rw[a0]
  have e2:r.body=body:=by rw[a0]
  rw[e1,e2];refine wpIn_mono hc ?_;rintro x a2 _ hq;cases x with
  |normal=>
   obtain⟨e2,I2,_,a8,ae,hb⟩:=hq;refine⟨_,run_beginRound (ae.own _ (.head _)) (by rw[a0]),?_⟩;have ao:=ae.block (i:=0) (o':= .loop { r with state:= .busy }) rfl dP;refine wpIn_mono (hb a2 _ a8 ao) ?_;rintro x _ _ a4;cases x with
   |normal=>
    obtain⟨I3,H3,a1,ap⟩:=a4;refine⟨_,_,run_endRound none (a1.own _ (.head _)),I3,(l,.loop r)::H3,?_,.inl ⟨rfl,hle.trans a1.le,H3,rfl,ap⟩⟩;have:=a1.block (i:=0) (o':= .loop r) rfl dP;rw[a0]at this ⊢;exact this
   |ret=>
    obtain⟨I3,H3,a1,ac⟩:=a4;exact⟨_,_,run_endRound (some .ret) (a1.own _ (.head _)),I3,_,a1.block (i:=0) rfl dP,.inr ⟨rfl,_,H3,rfl,ac⟩⟩
   |exit id=>
    obtain⟨I3,H3,a1,ac⟩:=a4;exact⟨_,_,run_endRound (some (.exit id)) (a1.own _ (.head _)),I3,_,a1.block (i:=0) rfl dP,.inr ⟨rfl,_,H3,rfl,ac⟩⟩
   |goto t=>exact a4.elim
   |panic ch=>exact a4.elim
   |outgrown=>exact a4.elim
  |exit id=>exact hq.elim
  |goto t=>exact hq.elim
  |ret=>exact hq.elim
  |panic ch=>exact hq.elim
  |outgrown=>exact hq.elim
 have ah:=aa.2 l Y' Z' (fun k O I2 H hle ⟨h1,G,h2,h3⟩=>⟨h1.trans hle,G,h2,ad _ _ _ _ hle h3⟩) al ((l,.loop r)::H1) ⟨Le.refl _,H1,rfl,h0⟩;have A:Ready I ((l,.loop r)::H1) ((w.alloc (.deferred (some []))).alloc (.loop r)):=⟨a3.sub,fun p hp=>a3.own p (aC _ hp),by
  have:=a3.nodup;rw[aY,bF]at this;exact this.1,fun p hp=>a3.dis p (aC _ hp)⟩
 have ai:(Instr.enterLoop fn a.tmps ps.toArray assign body none).run cx.P w= .ok (l,[OG w.heap.size]) ((w.alloc (.deferred (some []))).alloc (.loop r)):=by
  rw[hl,a0];exact run_enterLoop_outer fn a.tmps ps.toArray assign body
 refine⟨l,[OG w.heap.size],(w.alloc (.deferred (some []))).alloc (.loop r),⟨.fn (.func f) a7.toArray,(a6++[eY (.yield l) #[] #[]]).toArray⟩,(w.alloc (.deferred (some []))).alloc (.loop r),f,(a6++[eY (.yield l) #[] #[]]++a7).toArray,(w.alloc (.deferred (some []))).alloc (.loop r),ai,?_,fun _ _=>trivial,?_,fun h=>by simp[aZ]at h,callsIn_wide.2 ?_⟩
 ·have he:a.eval (.const (.func (.yield l) #[] #[]))= .func (.yield l) #[] #[]:=rfl;simp[resolve,ha.eval hg,bG,he]
 ·have h:=OH aa.1 (a6++[eY (.yield l) #[] #[]]++a7).toArray ((w.alloc (.deferred (some []))).alloc (.loop r));simpa[invoke]using h
 refine(ah.2 _ A).mono ?_;rintro _ w' ⟨I',H',af,rfl,aq⟩;have a5:=a3.call af;have hle:=af.le;have a8:Has { a with defers:=[OG w.heap.size]++a.defers } cx.n e (OG w.heap.size::cx.ds):=⟨ha.size,by simp[ha.defs],ha.get⟩;rcases aq with⟨_,G,rfl,hY⟩|⟨c,G,rfl,hZ⟩
 ·refine⟨_,_,run_endLoop (a5.own _ (.head _)) (by rw[a0];simp),?_⟩;have a9:=((a5.block (i:=0) (o':= .loop { r with state:= .exhausted }) rfl dP).sublist (dL _ _)).perm (H':=(w.heap.size,.deferred (some []))::(G++R)) dF.symm;have hp:r.pending=none:=by rw[a0]
  rw[hp]at a9 ⊢;exact done w.heap.size I' G hle hY _ _ a8 a9
 refine⟨_,_,run_endLoop (a5.own _ (.head _)) sI,?_⟩;have a9:=((a5.block (i:=0) (o':= .loop { { r with state:= .done,pending:=some c }with state:= .exhausted }) rfl dP).sublist (dL _ _)).perm (H':=(w.heap.size,.deferred (some []))::(G++R)) dF.symm;have hw:=left w.heap.size c I' G hle hZ _ _ a8 a9;have hF:({ cx with ds:=OG w.heap.size::cx.ds }:Cx).F=aZ:=Cx.wide hr;rw[hF]at hw;exact hw
end
theorem a2E{t n}(h:aK t n=true):∀u∈[t],aK u n=true:=fun u A=>by simp at A;subst A;exact h
theorem c6e{t u n}(h:aK t n=true)(h2:aK u n=true):∀x∈[t,u],aK x n=true:=fun x A=>by
 simp at A;rcases A with rfl|rfl
 ·exact h
 exact h2
theorem seq1{α:Type}(l:List α)(f:α→Value):∀args∈l.map (fun x=>[f x]),args.length=1:=fun args h=>by
 obtain⟨x,_,rfl⟩:=List.mem_map.1 h;rfl
theorem a9j{α:Type}{l:List α}{f:α→Value}{k:Nat}{args}(h:(l.map (fun x=>[f x]))[k]?=some args):∃x,l[k]?=some x∧args=[f x]:=by
 rw[dZ]at h;cases hl:l[k]? with
 |none=>rw[hl]at h;cases h
 |some x=>rw[hl]at h;cases h;exact⟨x,rfl,rfl⟩
theorem Cj.b0Z{h Q c e I H}(A:h.D=[])(k:(∀p∈H,h.w0.heap.size≤p.1)→Cj h Q c e I H):Cj h Q c e I H:=fun a w G hs=>k (fun p O=>by
 have:=hs.new p O;rw[A]at this;exact this.resolve_left sI) a w G hs
theorem CU.base{G A sz n xs g T}(h:CU G sz n xs g)(hn:∀p∈gH T xs g,A≤p.1):CU A sz n xs g:=by
 cases g with
 |none=>exact h
 |some q=>exact⟨hn _ (.head _),h.2⟩
theorem yT.ZR{P f fn c args I H}{A:Ending→Heap→HL→Prop}(hf:P.funcs[f]?=some fn)(Z:fn.body=some c)(O:fn.name≠ "runtime.NumGoroutine")
 (hn:args.length≤fn.ntmps)
 (h:∀w0,Ready I H w0→Cj ⟨P,fn.ntmps,w0,H.map (·.1),I,[],none⟩ (bodyPostM aZ 0 P fn (RR w0 (H.map (·.1)) I A)) c (TI 0 args) I H):yT P f args I H A:=by
 refine⟨⟨fn,hf,O,by simp[Z]⟩,fun w G=>?_⟩;refine(callsIn_wide (n:=0)).1 (callsIn_of_wp_marks hf Z trivial ?_);exact h w G _ _ (fB args fn.ntmps hn) (cZ w I H G.1 G.2.1 G.2.2.1 G.2.2.2)
def QM (cx:Cx) (fn:Func) (post:Ending→Heap→HL→Prop) (ds:List Deferred) (e:Env) (I:Heap) (H:HL):Prop:=
 ∀a w,Has a cx.n e cx.ds→St cx.w0 cx.D cx.I0 I H w→LeavesInM aZ 0 cx.P fn a.tmps (RR cx.w0 cx.D cx.I0 post) ds .returning w
section
variable {cx:Cx} {fn:Func} {post:Ending→Heap→HL→Prop} {e:Env} {I:Heap} {H H':HL} {ds:List Deferred}
theorem Ej.a2G{x}(G:x= .ret∨x= .normal)(h:QM cx fn post cx.ds e I H):Ej cx (bodyPostM aZ 0 cx.P fn (RR cx.w0 cx.D cx.I0 post)) x e I H:=by
 intro a w A hs;have:=h a w A hs;rw[←A.defs]at this;rcases G with rfl|rfl
 ·exact this
 exact this
theorem QM.mark{b} i (A:H[i]?=some (b,.deferred (some [])))(G:AV H i (b,.deferred none) H')(h:QM cx fn post ds e I H'):QM cx fn post (OG b::ds) e I H:=
 fun a _ O hs=>⟨sI,.inl ⟨b,_,rfl,run_takeDeferred (hs.own _ (aG A)),h a _ O (hs.block A G)⟩⟩
theorem QM.keep(A:Keeps H' H)(h:QM cx fn post ds e I H'):QM cx fn post ds e I H:=fun a w G hs=>h a w G (hs.sublist A)
theorem QM.a6L{t v}(hr:fn.results= #[.tmp t])(h:eg e t=some v)(A:post (.returned v) I H):QM cx fn post [] e I H:=by
 intro a w G hs;refine⟨v,?_,I,H,hs,A⟩;rw[results_tmp hr];have:=G.get t v h;simp[this]
theorem QM.a0L{t u v x}(hr:fn.results= #[.tmp t,.tmp u])(A:eg e t=some v)(G:eg e u=some x)(O:post (.returned (.tuple #[v,x])) I H):QM cx fn post [] e I H:=by
 intro a w h hs;refine⟨_,?_,I,H,hs,O⟩;rw[results_tmp2 hr];have h1:=h.get t v A;have h2:=h.get u x G;simp[h1,h2]
end
section
variable {α:Type} [BEq α] [LawfulBEq α]
abbrev ML (α:Type):=List (α×Value×Nat)
abbrev KX (kv:α→Value) (p:α×Value×Nat):MapEntry:={ key:=kv p.1,val:=p.2.1,born:=p.2.2 }
def BD (kv:α→Value) (l:ML α) (c:Nat):Obj:= .map (l.map (KX kv)).toArray c
def BK (l:ML α) (a:α):Option Value:=match l with
 |[]=>none
 |(b,v,_)::r=>if a == b then some v else BK r a
def BU (l:ML α) (a:α) (v:Value) (c:Nat):ML α:=match l with
 |[]=>[(a,v,c)]
 |(b,u,n)::r=>if a == b then(b,v,n)::r else(b,u,n)::BU r a v c
def FI (l:ML α) (a:α) (c:Nat):Nat:=if (BK l a).isSome then c else c+1
def midx (l:ML α) (a:α) (i:Nat):Option (Nat×Value):=match l with
 |[]=>none
 |(b,v,_)::r=>if a == b then some (i,v)else midx r a (i+1)
def IK (P:Program) (K:TypeId) (kv:α→Value):Prop:=
 (∀(a:α) (l:ML α) (w:World),(aI K (kv a) (l.map (KX kv))).run P w= .ok (midx l a 0) w)∧(∀b a w,(aS b 10000 K (kv a)).run P w= .ok () w)∧∀a,aX 10000 (kv a) (kv a)=true
theorem run_findKey{P K w d}(A:P.underlying K=some d){k es r}(h:aU d k es 0=some r):(aI K k es).run P w= .ok r w:=by
 simp[aI,run_underlying A,h]
omit [LawfulBEq α] in
theorem a4k{kv d}(hs:∀a b,aQ d (kv a) (kv b)=some (a == b)) a:∀(l:ML α) (i:Nat),aU d (kv a) (l.map (KX kv)) i=some (midx l a i)
 |[],_=>rfl
 |(b,u,n)::r,i=>by
  simp only[fE,aU,hs,midx];cases a == b
  ·simp only[bC,if_false];exact a4k hs a r (i+1)
  simp
omit [LawfulBEq α] in
theorem IK.now{P K}{kv:α→Value}{d}(h:P.underlying K=some d)(hs:∀a b,aQ d (kv a) (kv b)=some (a == b))(A:∀b a w,(aS b 10000 K (kv a)).run P w= .ok () w)(G:∀a,aX 10000 (kv a) (kv a)=true):IK P K kv:=
 ⟨fun a l _=>run_findKey h (a4k hs a l 0),A,G⟩
omit [LawfulBEq α] in
theorem a8q{P K kv w}(h:∀a b,(Op.equal K (kv a) (kv b)).run P w= .ok (a == b) w) a:∀(l:ML α) (i:Nat),(dG K (kv a) (l.map (KX kv)) i).run P w= .ok (midx l a i) w
 |[],i=>by simp[dG,midx]
 |(b,u,n)::r,i=>by
  simp only[fE,dG,midx,aF,h,aB];cases a == b
  ·simp only[bC,if_false];exact a8q h a r (i+1)
  simp
omit [LawfulBEq α] in
theorem IK.equal{P K}{kv:α→Value}{d}(h:P.underlying K=some d)(hs:∀a b,aQ d (kv a) (kv b)=none)(A:∀a b w,(Op.equal K (kv a) (kv b)).run P w= .ok (a == b) w)(G:∀b a w,(aS b 10000 K (kv a)).run P w= .ok () w)(O:∀a,aX 10000 (kv a) (kv a)=true):IK P K kv:=by
 refine⟨fun a l w=>?_,G,O⟩;cases l with
 |nil=>exact run_findKey h rfl
 |cons p r=>
  have h1:aU d (kv a) ((p::r).map (KX kv)) 0=none:=by simp[aU,hs]
  have h2:=a8q (P:=P) (K:=K) (w:=w) (fun a b=>A a b w) a (p::r) 0;simp only[aI,aF,run_underlying h,aB,h1];exact h2
theorem IK.int{P K k}(A:P.underlying K=some (.int k)):IK P K (fun a:Int=>Value.int k a):=by
 refine IK.now A (fun a b=>by simp[aQ]) (fun b a w=>?_) (fun a=>?_)
 ·have h:∀n,(aS b (n+1) K (.int k a)).run P w= .ok () w:=fun n=>by simp[aS,run_underlying A]
  exact h 9999
 have h:∀n,aX (n+1) (.int k a) (.int k a)=true:=fun n=>by simp[aX]
 exact h 9999
theorem a1A a:∀n,aX n (str a) (str a)=true:=fun n=>by
 cases n<;>simp only[aX,str]<;>(show(a.toArray == a.toArray)=true)<;>simp
theorem IK.text{P K}(h:P.underlying K=some .string):IK P K (fun a:List UInt8=>str a):=by
 refine IK.now h (fun a b=>?_) (fun b a w=>run_checkKey h b a w) (fun a=>a1A a _);simp only[aQ,str,dB];show(a.toArray == b.toArray)=(a == b);simp
theorem XH{a}:∀(l:ML α) (i:Nat),BK l a=none→midx l a i=none∧∀v c,BU l a v c=l++[(a,v,c)]
 |[],_,_=>⟨rfl,fun _ _=>rfl⟩
 |(b,u,n)::r,i,h=>by
  unfold BK at h
  split at h
  ·cases h
  rename_i A
  obtain⟨h1,h2⟩:=XH r (i+1) h;have G:(a == b)=false:=by simpa using A
  refine⟨?_,fun v c=>?_⟩
  ·simp only[midx,G];exact h1
  simp only[BU,G,bC,if_false,h2,dH]
theorem a1Z{a v}:∀(l:ML α) (i:Nat),BK l a=some v→
 ∃j u n,midx l a i=some (i+j,v)∧l[j]?=some (a,u,n)∧∀x c,BU l a x c=l.set j (a,x,n)
 |[],_,h=>by cases h
 |(b,u,n)::r,i,h=>by
  unfold BK at h
  split at h
  ·rename_i Z
   have A:=zC Z;subst A;cases h;exact⟨0,v,n,by simp[midx],rfl,fun x c=>by simp[BU]⟩
  rename_i G
  have O:(a == b)=false:=by simpa using G
  obtain⟨j,u',n',h1,h2,h3⟩:=a1Z r (i+1) h;refine⟨j+1,u',n',?_,by simpa using h2,fun x c=>by simp[BU,O,h3]⟩;simp only[midx,O,bC,if_false];rw[h1,Nat.add_assoc,Nat.add_comm 1 j]
variable {cx:Cx} {Q:Qt} {e:Env} {I:Heap} {H:HL} {o:Oper} {C:Ct} {S:World→Prop}
theorem b0K{P:Program}{T K E b c:Nat}{kv:α→Value}{l:ML α}{a:α}{v:Value}{w:World}(hT:P.underlying T=some (.map K E))(hk:IK P K kv)(hb:w.heap[b]?=some (BD kv l c)):
 (bW T (.map (some b)) (kv a) v).run P w= .ok () (aH w b (BD kv (BU l a v c) (FI l a c))):=by
 obtain⟨hf,hc,h⟩:=hk;have hg:(getObj b).run P w= .ok (BD kv l c) w:=by simp[getObj,bV,hb,BD]
 have hset:∀o',(setObj b o').run P w= .ok () (aH w b o'):=fun o'=>by simp[setObj,bV,hb,aH,BD]
 cases hm:BK l a with
 |none=>
  obtain⟨h1,h2⟩:=XH l 0 hm;have h3:(aI K (kv a) (l.map (KX kv))).run P w= .ok none w:=by rw[hf,h1]
  simp only[bW,aF,run_underlying hT,aB,hg,BD,hc,h3,hset,h2,FI,hm];simp
 |some u=>
  obtain⟨j,u',n,h1,h2,h3⟩:=a1Z l 0 hm;rw[Nat.zero_add]at h1;have h4:(aI K (kv a) (l.map (KX kv))).run P w= .ok (some (j,u)) w:=by rw[hf,h1]
  have hj:(l.map (KX kv)).toArray[j]?=some { key:=kv a,val:=u',born:=n }:=by simp[h2,KX]
  have G:∀w,(dX (kv a) (kv a)).run P w= .ok (kv a) w:=fun w=>by simp[dX,h]
  simp only[bW,aF,run_underlying hT,aB,hg,BD,hc,h4,hj,Option.map_some,Option.getD_some,G,hset,h3,FI,hm];simp only[Option.isSome_some,if_true];refine zD (fun A=>Result.ok () (aH w b (Obj.map A c))) ?_
  apply dA
  intro i;rw[dN];simp only[List.getElem?_toArray,dZ,dY]
  by_cases hi:j=i
  ·subst hi;have O:j<l.length:=by
    rcases dV j l.length with Z|Z
    ·exact Z
    simp[List.getElem?_eq_none Z]at h2
   have h5:l[j]=(a,u',n):=by
    have:=List.getElem?_eq_getElem O;rw[h2]at this;exact(Option.some.inj this).symm
   simp[O,h5]
  simp[hi]
theorem FZ{T K E b c:Nat}{m x y}{kv:α→Value}{l a}{G v:Value}{H'}(i:Nat)(h:o.op= .insert T m x y∨o.op= .mapUpdate T m x y)(hd:o.dst=none)(hm:ev e m=some (.map (some b)))(hx:ev e x=some G)(O:G=kv a)(hy:ev e y=some v)(hT:cx.P.underlying T=some (.map K E))(hK:IK cx.P K kv)
 (Z:H[i]?=some (b,BD kv l c))(a0:AV H i (b,BD kv (BU l a v c) (FI l a c)) H')(kk:C e I H'):GZ cx Q o e I H C:=by
 intro _ a1 w0 w A hs;unfold aW;subst O;have hb:=hs.own _ (aG Z);have hr:=b0K (a:=a) (v:=v) hT hK hb;have:(execOp w0.eval o).run cx.P w= .ok .skip (aH w b (BD kv (BU l a v c) (FI l a c))):=by
  rcases h with h|h<;>simp[execOp,h,A.eval hm,A.eval hx,A.eval hy,hr]
 rw[this];simp only[aJ,hd];exact a1 _ _ _ kk _ _ A.XP (hs.block Z a0)
theorem a7n{P:Program}{T K E b c:Nat}{kv:α→Value}{l:ML α}{a:α}{z:Value}{w:World}{ok:Bool}(h:P.underlying T=some (.map K E))(G:IK P K kv)(hz:∀w,(zeroValue E).run P w= .ok z w)(O:w.heap[b]?=some (BD kv l c)):
 (bY T (.map (some b)) (kv a) ok).run P w= .ok (if ok then .tuple #[(BK l a).getD z,.bool (BK l a).isSome]else(BK l a).getD z) w:=by
 obtain⟨hf,A,_⟩:=G;have hg:(getObj b).run P w= .ok (BD kv l c) w:=by simp[getObj,bV,O,BD]
 cases hm:BK l a with
 |none=>
  have h3:(aI K (kv a) (l.map (KX kv))).run P w= .ok none w:=by rw[hf,(XH l 0 hm).1]
  simp only[bY,aF,run_underlying h,aB,hg,BD,aP,A,h3,hz];simp
 |some u=>
  obtain⟨j,_,n,h1,h2,h3⟩:=a1Z l 0 hm;have Z:(aI K (kv a) (l.map (KX kv))).run P w= .ok (some (0+j,u)) w:=by rw[hf,h1]
  simp only[bY,aF,run_underlying h,aB,hg,BD,aP,A,Z];simp
theorem ZH{T K E b c:Nat}{m x}{kv:α→Value}{l a}{h z:Value}(O:o.op= .lookup T m x true)(Z:ev e m=some (.map (some b)))(hx:ev e x=some h)(A:h=kv a)(hT:cx.P.underlying T=some (.map K E))(hK:IK cx.P K kv)(hz:∀w,(zeroValue E).run cx.P w= .ok z w)
 (hb:yR S b (BD kv l c)):DK cx o e S (.tuple #[(BK l a).getD z,.bool (BK l a).isSome]):=by
 intro w0 w G hs;subst A;have hr:=a7n (a:=a) (ok:=true) hT hK hz (hb w hs);simp only[execOp,O,aF,G.eval Z,G.eval hx,hr,aB,aP,if_true]
theorem CO{T K E b c:Nat}{m x}{kv:α→Value}{l a}{h z:Value}(O:o.op= .lookup T m x false)(Z:ev e m=some (.map (some b)))(hx:ev e x=some h)(A:h=kv a)(hT:cx.P.underlying T=some (.map K E))(hK:IK cx.P K kv)(hz:∀w,(zeroValue E).run cx.P w= .ok z w)
 (hb:yR S b (BD kv l c)):DK cx o e S ((BK l a).getD z):=by
 intro w0 w G hs;subst A;have hr:=a7n (a:=a) (ok:=false) hT hK hz (hb w hs);simp only[execOp,O,aF,G.eval Z,G.eval hx,hr,aB,aP,if_false,bC]
end
theorem b7C(c d:UInt8):((c.toNat:Int)=(d.toNat:Int))↔c=d:=by
 constructor
 ·intro h;exact UInt8.toNat_inj.1 oM
 intro h;subst h;rfl
theorem nb(a n:Nat):((a:Int) == (n:Int))=(a == n):=by rw[Bool.eq_iff_iff,beq_iff_eq,beq_iff_eq];omega
theorem nb1(a:Nat):((a:Int) == 1)=(a == 1):=nb a 1
theorem QJ{c d:UInt8}(h:(c.toNat:Int)=(d.toNat:Int)):c=d:=(b7C c d).1 h
theorem NG{c d:UInt8}(h:¬(c.toNat:Int)=(d.toNat:Int)):c≠d:=fun e=>h ((b7C c d).2 e)
theorem a6P{s:List UInt8}{k c}(h:s[k]?=some c):(s.take (k+1)).drop k=[c]:=by
 obtain⟨A,hg⟩:=aO.1 h;rw[bU A,hg,eH,bD (by simp;omega)];simp[eX (Nat.le_of_lt A)]
theorem c6n{s:List UInt8}{k c d}(h:s[k]?=some c)(h2:s[k+1]?=some d):(s.take (k+2)).drop k=[c,d]:=by
 obtain⟨A,hg⟩:=aO.1 h2;rw[bU A,hg,List.drop_append_of_le_length (by simp;omega),a6P h];rfl
def KI (T:TypeId) (I:Heap) (l:List (List UInt8)) (v:Value):Prop:=∃b c sp,v= .slice (some ⟨b,0,none⟩) l.length c∧I b=some (yY T (l.map str++sp))
theorem KI.mono{T I A l v}(h:KI T I l v)(G:Le I A):KI T A l v:=
 let ⟨b,c,sp,h1,h2⟩:=h;⟨b,c,sp,h1,G _ _ h2⟩
theorem JO{l:List (List UInt8)}{sp}{k:Nat}{x}(h:l[k]?=some x):(l.map str++sp)[k]?=some (str x):=by
 obtain⟨A,hg⟩:=aO.1 h;rw[bK (by simpa using A)];simp[h]
theorem IY(l:List UInt8):(⟨l.toArray⟩:ByteArray).data.toList=l:=sI
theorem b7m{x}(h: -2147483648≤x∧x≤2147483647):IntKind.i32.wrap x=x:=by
 simp[IntKind.wrap,IntKind.bits,IntKind.signed];omega
theorem drop_cons{α:Type}{s:List α}{k c}(h:s[k]?=some c):s.drop k=c::s.drop (k+1):=by
 obtain⟨A,hg⟩:=aO.1 h;rw[List.drop_eq_getElem_cons A,hg]
theorem Ej.c3e{h fn}{A:Ending→Heap→HL→Prop}{e I H t u s v x y}(hr:fn.results= #[.tmp t,.tmp u,.tmp s])(O:h.ds=[])(Z:eg e t=some v)(hx:eg e u=some x)(hy:eg e s=some y)(hp:A (.returned (.tuple #[v,x,y])) I H):
 Ej h (bodyPost h.P fn (RR h.w0 h.D h.I0 A)) .ret e I H:=by
 intro a w G hs;refine⟨G.defs.trans O,_,?_,I,H,hs,hp⟩;have h1:=G.get t v Z;have h2:=G.get u x hx;have h3:=G.get s y hy;simp[results,hr,h1,h2,h3]
theorem yT.frame{P f args I H}{G:Ending→Heap→HL→Prop} R (h:yT P f args I H G):yT P f args I (H++R) (fun e I' H'=>∃H1,H'=H1++R∧G e I' H1):=by
 refine⟨h.1,fun w hw=>?_⟩;have A:=cZ w I (H++R) hw.1 hw.2.1 hw.2.2.1 hw.2.2.2;have O:Ready I H w:=⟨A.sub,fun p Z=>A.own p (aC _ Z),by
  have:=A.nodup;rw[aY,bF]at this;exact this.1,fun p Z=>A.dis p (aC _ Z)⟩
 refine(h.2 w O).mono fun e w' ⟨I',H1,hs,Z⟩=>⟨I',H1++R,A.call hs,H1,rfl,Z⟩
theorem yT.drop{P f args I H}{G A:Ending→Heap→HL→Prop}(h:yT P f args I H G)(hp:∀e O H',G e O H'→∃Z,Z.Sublist H'∧A e O Z):yT P f args I H A:=
 ⟨h.1,fun w hw=>(h.2 w hw).mono fun e _ ⟨O,H',hs,hq⟩=>let ⟨Z,h1,h2⟩:=hp e O H' hq;⟨O,Z,hs.sublist h1,h2⟩⟩
theorem FU{Z Q o e I C R d f fo xs ts a0 a1 vs}{G:Ending→Heap→HL→Prop}
 (ho:o.op= .call ⟨.value fo,xs.toArray,ts⟩)(hd:o.dst=some d)(hn:aK d Z.n=true)(hf:ev e fo=some (.func (.func f) a0.toArray a1.toArray))(hx:evs e xs=some vs)
 (hs:yT Z.P f (a0++vs++a1) I [] G)
 (k:∀v A h,Le I A→(∀p∈h,Z.w0.heap.size≤p.1)→G (.returned v) A h→C ((d,v)::e) A (h++R))
 (kp:∀ch A h,Le I A→G (.panicked ch) A h→Ej Z Q (.panic ch) e A (h++R))
 (ko:∀A h,¬G .outgrown A h):GZ Z Q o e I R C:=by
 intro K hK a w ha a2;unfold aW;have hr:(execOp a.eval o).run Z.P w= .ok (.enter f (a0++vs++a1).toArray) w:=by
  have a8:xs.toArray.map a.eval=vs.toArray:=by
   rw[bT,ha.a0u hx]
  simp only[execOp,ho,resolve,a8,ha.eval hf,bG,invoke,aF,aP,aB,OH hs.1];simp
 rw[hr];simp only[aJ];have a3:Ready I [] w:=⟨a2.sub,fun _ O=>absurd O (eP),List.nodup_nil,fun _ O=>absurd O (eP)⟩;refine(hs.2 w a3).mono ?_;rintro en w' ⟨A,h,a4,O⟩;have a6:=a4.le;have a5:=St.call (H1:=[]) (R:=R) a2 a4;have a7:∀p∈h,Z.w0.heap.size≤p.1:=fun p O=>Nat.le_trans a2.size ((a4.new p O).resolve_left sI);cases en with
 |returned v=>
  rw[hd];exact hK _ _ _ (k v A h a6 a7 O) _ _ (ha.put hn) a5
 |panicked ch=>exact kp ch A h a6 O _ _ ha a5
 |outgrown=>exact(ko _ _ O).elim
def JX (T:TypeId) (I:Heap) (l:List (List UInt8)) (v:Value):Prop:=(l=[]∧v= .slice none 0 0)∨∃b c sp,v= .slice (some ⟨b,0,none⟩) l.length c∧l.length≤c∧I b=some (yY T (l.map str++sp))
theorem JX.mono{T I A l v}(h:JX T I l v)(G:Le I A):JX T A l v:=h.imp id fun⟨b,c,sp,h1,h2,h3⟩=>⟨b,c,sp,h1,h2,G _ _ h3⟩
theorem JX.some{T I l v}(h:JX T I l v)(A:l≠[]):KI T I l v:=let ⟨b,c,sp,h1,_,h3⟩:=h.resolve_left fun h=>A h.1;⟨b,c,sp,h1,h3⟩
section
variable {cx:Cx} {Q:Qt} {e:Env} {I:Heap} {R:HL} {T:TypeId} {l:List (List UInt8)} {n base:Nat} {g:Gs}
theorem a8Q(hg:CU base 1 n (l.map str) none):l=[]∧n=0:=⟨by simpa using hg.2,hg.1⟩
theorem c5J{b c sp}(hg:CU base 1 n (l.map str) (some (b,c,sp))):base≤b∧n=l.length∧l.length≤c:=⟨hg.1,by have:=hg.2.1;simpa using this.symm,by have:=hg.2.2;simp at this;omega⟩
theorem b2a{X:Heap→HL→Prop}(hg:CU base 1 n (l.map str) g)(G:∀b o,base≤b→(∀h,Le I h→h b=some o→X h R)→X I ((b,o)::R))(k:∀h,Le I h→JX T h l (gV n g)→X h R):X I (gH T (l.map str) g++R):=by
 cases g with
 |none=>
  obtain⟨h1,h2⟩:=a8Q hg;subst h2;exact k I (Le.refl _) (.inl ⟨h1,rfl⟩)
 |some q=>
  obtain⟨b,c,sp⟩:=q;obtain⟨h1,h2,h3⟩:=c5J hg;subst h2;exact G b _ h1 fun h A O=>k h A (.inr ⟨b,c,sp,rfl,h3,O⟩)
theorem Cj.a0U{c}(hg:CU cx.w0.heap.size 1 n (l.map str) g)(k:∀h,Le I h→JX T h l (gV n g)→Cj cx Q c e h R):Cj cx Q c e I (gH T (l.map str) g++R):=
 b2a (X:=fun I H=>Cj cx Q c e I H) hg (fun _ _ A k=>Cj.persist A k) k
theorem J.a0U{h r}(hg:CU cx.w0.heap.size 1 n (l.map str) g)(k:∀A,Le I A→JX T A l (gV n g)→J cx Q h r e A R):J cx Q h r e I (gH T (l.map str) g++R):=
 b2a (X:=fun I H=>J cx Q h r e I H) hg (fun _ _ G k=>J.persist G k) k
end
section
variable {cx:Cx} {Q:Qt} {o:Oper} {e:Env} {I:Heap} {H:HL} {C:Ct} {S:World→Prop}
theorem a8R{d T E sz}(A:o.op= .buildSlice T 0 #[])(hd:o.dst=some d)(hn:aK d cx.n=true)
 (G:cx.P.underlying T=some (.slice E))(h:∀w,(sizeOf E).run cx.P w= .ok sz w)
 (k:∀b,cx.w0.heap.size≤b→C ((d,.slice (some ⟨b,0,none⟩) 0 0)::e) I ((b,yY E [])::H)):GZ cx Q o e I H C:=by
 intro K O a w Z hs;unfold aW;have:(execOp a.eval o).run cx.P w= .ok (.value (.slice (some ⟨w.heap.size,0,none⟩) 0 0)) { w with heap:=w.heap.push (yY E []) }:=by
  simp[execOp,A,Instr.buildSlice,run_underlying G,h,Instr.fill,newRow,yY];exact zD (fun l=>w.alloc (Obj.cells l E)) (Array.eq_empty_of_size_eq_zero sI)
 rw[this];simp only[aJ,hd];exact O _ _ _ (k _ hs.size) _ _ (Z.put hn) (hs.alloc _)
theorem b0I{P w T l m}(h:P.underlying T=some .bool):(Op.equal T (.bool l) (.bool m)).run P w= .ok (l == m) w:=by
 show(aV (9999+1) T (.bool l) (.bool m)).run P w=_;rw[aV];simp only[aF,run_underlying h,aB,aP]
theorem a3Q{x y T U l m}(A:o.op= .binOp .eql T x y U)(G:ev e x=some (.bool l))(O:ev e y=some (.bool m))(Z:cx.P.underlying T=some .bool):DK cx o e S (.bool (l == m)):=by
 intro a w h _;have hg:eqGuard .eql T x y (.bool l) (.bool m)=pure ():=rfl;simp[execOp,A,h.eval G,h.eval O,hg,binOp,b0I Z]
end
end Go.Sx
namespace Ke
open Go.Lib (decodeL decodeN)
abbrev Bs:=List UInt8
def YJ:Nat→Bs→List Nat
 |0,_=>[]
 |_+1,[]=>[]
 |f+1,c::r=>(decodeL (c::r)).1::YJ f ((c::r).drop (decodeL (c::r)).2)
def runes (s:Bs):List Nat:=YJ s.length s
theorem b0f:∀(f g:Nat) (s:Bs),s.length≤f→s.length≤g→YJ f s=YJ g s
 |0,0,_,_,_=>rfl
 |0,g+1,s,h,_=>by
  have:s=[]:=dI.1 oM;subst this;rfl
 |f+1,0,s,_,h=>by
  have:s=[]:=dI.1 oM;subst this;rfl
 |f+1,g+1,[],_,_=>rfl
 |f+1,g+1,c::r,h1,h2=>by
  have A:=bH (c::r);simp only[bI]at h1 h2;simp only[YJ];rw[b0f f g _ (by simp;omega) (by simp;omega)]
theorem b9o:runes []=[]:=rfl
theorem YM{s}(h:s≠[]):runes s=(decodeL s).1::runes (s.drop (decodeL s).2):=by
 cases s with
 |nil=>exact absurd rfl h
 |cons c r=>
  have A:=bH (c::r);show YJ (r.length+1) (c::r)=_;simp only[YJ];unfold runes;rw[b0f r.length _ _ (by simp;omega) (Nat.le_refl _)]
theorem a3h{s:Bs}{i}(h:i<s.length):runes (s.drop i)=(aT ⟨s.toArray⟩ i).1::runes (s.drop (i+(aT ⟨s.toArray⟩ i).2)):=by
 have h1:=cO ⟨s.toArray⟩ i;simp only at h1;rw[←h1,YM (by simp;omega),List.drop_drop]
theorem a4y{s:Bs}{i}(h:s.length≤i):runes (s.drop i)=[]:=by rw[bD h];rfl
theorem decode_le(s:Bs) i:(aT ⟨s.toArray⟩ i).1≤1114111:=by
 rw[←cO ⟨s.toArray⟩ i];exact Go.Lib.decodeL_rune _
theorem VD(s:Bs){i}(h:i<s.length):1≤(aT ⟨s.toArray⟩ i).2∧i+(aT ⟨s.toArray⟩ i).2≤s.length:=by
 have h1:decodeL (s.drop i)=aT ⟨s.toArray⟩ i:=cO ⟨s.toArray⟩ i;rw[←h1];refine⟨bH _,?_⟩;have:=Go.Lib.decodeL_le (s.drop i) (by simp;omega);simp only[eU]at this;omega
theorem a1N:∀(f:Nat) (s:Bs),(YJ f s).length≤s.length
 |0,_=>Nat.zero_le _
 |_+1,[]=>Nat.le_refl _
 |f+1,d::r=>by
  have h:=bH (d::r);have:=a1N f ((d::r).drop (decodeL (d::r)).2);simp only[YJ,bI];simp only[eU,bI]at this;omega
def enc (c:Nat):Bs:=
 if c<128 then[aA c]else if c<2048 then[aA (192+c / 64),aA (128+c % 64)]
 else if c<65536 then[aA (224+c / 4096),aA (128+c / 64 % 64),aA (128+c % 64)]
 else[aA (240+c / 262144),aA (128+c / 4096 % 64),aA (128+c / 64 % 64),aA (128+c % 64)]
def okc (c:Nat):Prop:=c<55296∨(57344≤c∧c<65536)
theorem c3v{c}(h:okc c):dU (c:Int)=true:=by
 unfold okc at h;unfold dU;simp only[Bool.or_eq_true,Bool.and_eq_true,zH];omega
theorem c0p{c:Nat}(h:dU (c:Int)=true):(dJ (c:Int)).data.toList=(if c<128 then(⟨#[aA c]⟩:ByteArray)else if c<2048 then⟨#[aA (192+c / 64),aA (128+c % 64)]⟩else if c<65536 then⟨#[aA (224+c / 4096),aA (128+c / 64 % 64),aA (128+c % 64)]⟩
 else⟨#[aA (240+c / 262144),aA (128+c / 4096 % 64),aA (128+c / 64 % 64),aA (128+c % 64)]⟩).data.toList:=by
 unfold dJ;simp only[h,if_true,Int.toNat_natCast]
theorem b6t{c}(h:okc c):(dJ (c:Int)).data.toList=enc c:=by
 rw[c0p (c3v h)];unfold enc
 by_cases h1:c<128
 ·rw[zG h1,zG h1]
 rw[zF h1,zF h1]
 by_cases h2:c<2048
 ·rw[zG h2,zG h2]
 rw[zF h2,zF h2]
 by_cases h3:c<65536
 ·rw[zG h3,zG h3]
 rw[zF h3,zF h3]
def rows:List (Bs×Bs):=[
 ([97],[195,160,195,161,195,162,195,163,195,164,195,165,196,129,196,131,196,133,195,128,195,129,195,130,195,131,195,132,195,133,196,128,196,130,196,132]),
 ([99],[195,167,196,135,196,137,196,139,196,141,195,135,196,134,196,136,196,138,196,140]),
 ([100],[196,143,196,145,195,176,196,142,196,144,195,144]),
 ([101],[195,168,195,169,195,170,195,171,196,147,196,149,196,151,196,153,196,155,195,136,195,137,195,138,195,139,196,146,196,148,196,150,196,152,196,154]),
 ([103],[196,157,196,159,196,161,196,163,196,156,196,158,196,160,196,162]),
 ([104],[196,165,196,167,196,164,196,166]),
 ([105],[195,172,195,173,195,174,195,175,196,169,196,171,196,173,196,175,196,177,195,140,195,141,195,142,195,143,196,168,196,170,196,172,196,174,196,176]),
 ([106],[196,181,196,180]),
 ([107],[196,183,196,182]),
 ([108],[196,186,196,188,196,190,197,130,196,185,196,187,196,189,197,129]),
 ([110],[195,177,197,132,197,134,197,136,195,145,197,131,197,133,197,135]),
 ([111],[195,178,195,179,195,180,195,181,195,182,195,184,197,141,197,143,197,145,198,161,195,146,195,147,195,148,195,149,195,150,195,152,197,140,197,142,197,144,198,160]),
 ([114],[197,149,197,151,197,153,197,148,197,150,197,152]),
 ([115],[197,155,197,157,197,159,197,161,197,154,197,156,197,158,197,160]),
 ([116],[197,163,197,165,197,167,197,162,197,164,197,166]),
 ([117],[195,185,195,186,195,187,195,188,197,169,197,171,197,173,197,175,197,177,197,179,198,176,195,153,195,154,195,155,195,156,197,168,197,170,197,172,197,174,197,176,197,178,198,175]),
 ([119],[197,181,197,180]),
 ([121],[195,189,195,191,197,183,195,157,197,184,197,182]),
 ([122],[197,186,197,188,197,190,197,185,197,187,197,189]),
 ([97,101],[195,166,195,134]),
 ([111,101],[197,147,197,146]),
 ([115,115],[195,159]),
 ([116,104],[195,190,195,158]),
 ([206,177],[206,172,206,134]),
 ([206,181],[206,173,206,136]),
 ([206,183],[206,174,206,137]),
 ([206,185],[206,175,207,138,206,144,206,138,206,170]),
 ([206,191],[207,140,206,140]),
 ([207,133],[207,141,207,139,206,176,206,142,206,171]),
 ([207,137],[207,142,206,143]),
 ([208,181],[209,145,208,129])]
def tab:List (Nat×Bs):=[
 (224,[97]),(225,[97]),(226,[97]),(227,[97]),(228,[97]),(229,[97]),(257,[97]),(259,[97]),(261,[97]),(192,[97]),(193,[97]),(194,[97]),(195,[97]),(196,[97]),(197,[97]),(256,[97]),(258,[97]),(260,[97]),
 (231,[99]),(263,[99]),(265,[99]),(267,[99]),(269,[99]),(199,[99]),(262,[99]),(264,[99]),(266,[99]),(268,[99]),
 (271,[100]),(273,[100]),(240,[100]),(270,[100]),(272,[100]),(208,[100]),
 (232,[101]),(233,[101]),(234,[101]),(235,[101]),(275,[101]),(277,[101]),(279,[101]),(281,[101]),(283,[101]),(200,[101]),(201,[101]),(202,[101]),(203,[101]),(274,[101]),(276,[101]),(278,[101]),(280,[101]),(282,[101]),
 (285,[103]),(287,[103]),(289,[103]),(291,[103]),(284,[103]),(286,[103]),(288,[103]),(290,[103]),
 (293,[104]),(295,[104]),(292,[104]),(294,[104]),
 (236,[105]),(237,[105]),(238,[105]),(239,[105]),(297,[105]),(299,[105]),(301,[105]),(303,[105]),(305,[105]),(204,[105]),(205,[105]),(206,[105]),(207,[105]),(296,[105]),(298,[105]),(300,[105]),(302,[105]),(304,[105]),
 (309,[106]),(308,[106]),
 (311,[107]),(310,[107]),
 (314,[108]),(316,[108]),(318,[108]),(322,[108]),(313,[108]),(315,[108]),(317,[108]),(321,[108]),
 (241,[110]),(324,[110]),(326,[110]),(328,[110]),(209,[110]),(323,[110]),(325,[110]),(327,[110]),
 (242,[111]),(243,[111]),(244,[111]),(245,[111]),(246,[111]),(248,[111]),(333,[111]),(335,[111]),(337,[111]),(417,[111]),(210,[111]),(211,[111]),(212,[111]),(213,[111]),(214,[111]),(216,[111]),(332,[111]),(334,[111]),(336,[111]),(416,[111]),
 (341,[114]),(343,[114]),(345,[114]),(340,[114]),(342,[114]),(344,[114]),
 (347,[115]),(349,[115]),(351,[115]),(353,[115]),(346,[115]),(348,[115]),(350,[115]),(352,[115]),
 (355,[116]),(357,[116]),(359,[116]),(354,[116]),(356,[116]),(358,[116]),
 (249,[117]),(250,[117]),(251,[117]),(252,[117]),(361,[117]),(363,[117]),(365,[117]),(367,[117]),(369,[117]),(371,[117]),(432,[117]),(217,[117]),(218,[117]),(219,[117]),(220,[117]),(360,[117]),(362,[117]),(364,[117]),(366,[117]),(368,[117]),(370,[117]),(431,[117]),
 (373,[119]),(372,[119]),
 (253,[121]),(255,[121]),(375,[121]),(221,[121]),(376,[121]),(374,[121]),
 (378,[122]),(380,[122]),(382,[122]),(377,[122]),(379,[122]),(381,[122]),
 (230,[97,101]),(198,[97,101]),
 (339,[111,101]),(338,[111,101]),
 (223,[115,115]),
 (254,[116,104]),(222,[116,104]),
 (940,[206,177]),(902,[206,177]),
 (941,[206,181]),(904,[206,181]),
 (942,[206,183]),(905,[206,183]),
 (943,[206,185]),(970,[206,185]),(912,[206,185]),(906,[206,185]),(938,[206,185]),
 (972,[206,191]),(908,[206,191]),
 (973,[207,133]),(971,[207,133]),(944,[207,133]),(910,[207,133]),(939,[207,133]),
 (974,[207,137]),(911,[207,137]),
 (1105,[208,181]),(1025,[208,181])]
def char (c:Nat):Bs:=
 if (97≤c∧c≤122)∨(48≤c∧c≤57)then enc c
 else if 65≤c∧c≤90 then enc (c+32)
 else if c<128 then[32]
 else if (768≤c∧c≤879)∨(65056≤c∧c≤65071)then[]
 else match tab.lookup c with
  |some s=>s
  |none=>
   if c=962 then enc 963
   else if (945≤c∧c≤969)∨(1072≤c∧c≤1103)then enc c
   else if ((913≤c∧c≤937)∧c≠930)∨(1040≤c∧c≤1071)then enc (c+32)
   else[32]
def NI:List (Bs×Bs)→List (Nat×Bs)
 |[]=>[]
 |(a,b)::r=>(runes b).map (·,a)++NI r
theorem b9g:NI rows=tab:=kR
theorem b9q:(tab.map (·.1)).Nodup:=by decide +kernel
def wf (w:Bs):List Nat→List Bs
 |[]=>if w=[]then[]else[w]
 |c::r=>if char c=[32]then(if w=[]then wf [] r else w::wf [] r)else wf (w++char c) r
def words (s:Bs):List Bs:=wf [] (runes s)
def join:List Bs→Bs
 |[]=>[]
 |[a]=>a
 |a::b::r=>a++[32]++join (b::r)
theorem a0j:∀(l:List Nat) (w:Bs),∀x∈wf w l,x≠[]
 |[],w,x,h=>by
  unfold wf at h
  split at h
  ·cases h
  simp at h;subst h;assumption
 |c::r,w,x,h=>by
  unfold wf at h
  split at h
  ·split at h
   ·exact a0j r [] x h
   rcases List.mem_cons.1 h with rfl|h
   ·assumption
   exact a0j r [] x h
  exact a0j r _ x h
def digit (c:UInt8):Bool:=48≤c && c≤57
def digits (s:Bs):Bool:=s.all digit
def strip (s:Bs):Bs:=(s.dropLast.dropWhile (· == 48))++s.drop (s.length-1)
def number (s:Bs):Bs:=
 let t:=strip s
 let n:=min t.length 99
 [aA (48+n / 10),aA (48+n % 10)]++t
def OB (w:Bs):Bs:=if digits w then number w else w
def cut (s:Bs) (skip:Int):Bs:=s.drop (min (max skip 0) s.length).toNat
def KC (s:Bs) (skip:Int):Bs:=join ((words (cut s skip)).map OB)
end Ke
namespace Ke
def okb (c:UInt8):Bool:=digit c || c == 88 || c == 120 || c == 32 || c == 45
def nb (c:UInt8):Bool:= !(c == 32 || c == 45)
def up (c:UInt8):UInt8:=if c=120 then 88 else c
def norm (s:Bs):Bs:=((s.takeWhile okb).filter nb).map up
def a4g:Nat→Bs→Nat
 |_,[]=>0
 |k,c::r=>(c.toNat-48)*(1+2*(k % 2))+a4g (k+1) r
def check (s:Bs):UInt8:=aA (48+(10-a4g 0 (s.take 12) % 10) % 10)
def val (c:UInt8):Nat:=if c=88 then 10 else c.toNat-48
def a4s:Nat→Bs→Nat
 |_,[]=>0
 |k,c::r=>(10-k)*val c+a4s (k+1) r
def a8k (s:Bs):Bool:=a4s 0 s % 11 == 0 && digits (s.take 9)
def b1a (t:Bs):Bs×Bool:=
 if t.length=10∧a8k t=true then([57,55,56]++t.take 9++[check ([57,55,56]++t.take 9)],true)
 else if t.length=13∧digits t=true∧check t=t.getD 12 0 then(t,true)
 else([],false)
def a0g (s:Bs):Bs×Bool:=b1a (norm s)
theorem b1M{p:UInt8→Prop}(h:∀n<256,p (aA n)) c:p c:=by
 have:=h c.toNat c.toNat_lt
 rwa [UInt8.ofNat_toNat]at this
theorem a4u{c}:digit c=true↔48≤c.toNat∧c.toNat≤57:=by
 simp[digit,UInt8.le_iff_toNat_le]
theorem b3R{c r}:digits (c::r)=(digit c && digits r):=rfl
theorem a3E{a b}:digits (a++b)=(digits a && digits b):=by simp[digits,List.all_append]
theorem b1N:∀(a b:Bs) (k:Nat),a4g k (a++b)=a4g k a+a4g (k+a.length) b
 |[],b,k=>by simp[a4g]
 |c::r,b,k=>by
  simp only[dH,a4g,bI,b1N r b (k+1)];rw[show k+1+r.length=k+(r.length+1) by omega];omega
theorem b3e:∀(a b:Bs) (k:Nat),a4s k (a++b)=a4s k a+a4s (k+a.length) b
 |[],b,k=>by simp[a4s]
 |c::r,b,k=>by
  simp only[dH,a4s,bI,b3e r b (k+1)];rw[show k+1+r.length=k+(r.length+1) by omega];omega
end Ke
section
namespace Ke
def rep (s:Bs):Bs:=s.filter nb
theorem c7u c:nb c= !(c == 32 || c == 45):=rfl
end Ke
namespace Go.Sx
def buf (E:List UInt8) (n:Nat):List Value:=EP E++bP (n-E.length) (.int .u8 0)
theorem c5s n:buf [] n=bP n (.int .u8 0):=by simp[buf,EP]
theorem b4F{E n}(h:E.length≤n):(buf E n).length=n:=by simp[buf,EP];omega
theorem c5I{E X n}(h:E.length+X.length≤n):zM (buf E n) E.length (EP X) (buf (E++X) n):=by
 have A:(EP X).length=X.length:=PG X;have G:(EP E).length=E.length:=PG E;refine⟨by rw[b4F oM,A];exact h,?_⟩;unfold buf;rw[A,bZ oM,dK oM,eH,bD oM,G];simp only[EP,aY,List.nil_append,List.append_assoc,List.drop_replicate,dW]
 congr 2
 congr 1
 omega
theorem c4S{E n} c (h:E.length<n):(buf E n).set E.length (u8 c)=buf (E++[c]) n:=by
 have A:(EP E).length=E.length:=PG E;unfold buf;rw[dQ _ _ oM,A,Nat.sub_self];obtain⟨m,G⟩:∃m,n-E.length=m+1:=⟨n-E.length-1,oM⟩;have h2:n-(E++[c]).length=m:=by simp;omega
 rw[G,h2,List.replicate_succ,List.set_cons_zero];simp[EP]
theorem c3A{E n}(h:n=E.length):buf E n=EP E++[]:=by
 subst h;simp[buf]
