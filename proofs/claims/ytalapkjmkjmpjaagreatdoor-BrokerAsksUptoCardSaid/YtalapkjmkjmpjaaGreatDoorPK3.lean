/-
  Own texts on the laws of the seat, joined: the logic, and contracts of functions. Conditions: none.
-/
import Derived.Test.YtalapkjmkjmpjaaGreatDoorPK2
import Derived.Sort.Walk0
import Derived.Sort.Grow
import Derived.Sort.EncStr
import Derived.Maps.RangeRun
import Derived.Laws.StructEq
set_option linter.all false
set_option maxRecDepth 100000
set_option maxHeartbeats 40000000
open Go.Result renaming andThen_ok -> aA
open Go.Sem renaming run_bind -> aB,run_pure -> aS,run -> bJ
open Go.Instr renaming checkKey -> aC,findKey -> aZ,sliceBounds -> bC,sameBits -> bM,sliceAt -> bQ,slice -> bV
open List renaming filter_sublist -> aF,mem_toArray -> aU,take_left -> bI
open Go.Oper renaming upon -> aG,wp -> aQ
open Go.Sort renaming ahead -> aH
open Go.Proofs renaming bytesLess_eq -> aI
open Go.Builtin renaming delete_ -> aJ,len_ -> bU
open Go.Value renaming oneCell' -> aK,int -> aV
open Go.Question renaming appendCap -> aN
open Nat renaming le_of_mul_le_mul_right -> aO,blt -> aX,add_assoc -> bP
open Go.Op renaming equalIn -> aP,stringOp -> bF
open Go.Addr renaming add_lit -> aT
open Go.Sx.World renaming block -> aW
open List.Perm renaming append_left -> aY
open Function renaming comp_def -> bD
open Array renaming mem_filter -> bG,contains -> bK
open Go.Sx.Le renaming refl -> bH
open BitVec renaming ofInt -> bT
namespace Go.Sx
open Go
def rcs (l:List Nat):List Value:=l.map fun(r:Nat)=>aV .i32 (r:Int)
theorem b7M{l sp}{k c:Nat}(h:l[k]?=some c):(rcs l++sp)[k]?=some (.int .i32 (c:Int)):=by
 obtain⟨A,_⟩:=xC.1 h;rw[xJ (by simpa[rcs]using A)];simp[rcs,h]
section
variable {cx:Cx} {Q:Qt} {o:Oper} {e:Env} {I:Heap} {H:HL} {C:Ct} {S:World→Prop}
theorem a9y{N T E d x l rs}(hr:Conv.runesFrom ⟨l.toArray⟩ l.length 0 #[]=(rcs rs).toArray)(ho:o.op= .convert N T x)(hd:o.dst=some d)(hn:aX d cx.n=true)(hx:ev e x=some (str l))
 (hS:cx.P.underlying N=some .string)(hT:cx.P.underlying T=some (.slice E))(hE:cx.P.underlying E=some (.int .i32))
 (k:∀b c sp,cx.w0.heap.size≤b→C ((d,.slice (some ⟨b,0,none⟩) rs.length c)::e) I ((b,yV E (rcs rs++sp))::H)):EZ cx Q o e I H C:=by
 intro K hK a w O G;unfold aQ
 let A:=(aN rs.length 0 E).cut (w.tape w.drawn (.appendCap rs.length 0 E))
 let sp:List Value:=List.replicate (A-rs.length) (.int .i32 0)
 have Z:(rcs rs).toArray.size=rs.length:=by simp[rcs]
 have M:(execOp a.eval o).run cx.P w= .ok (.value (.slice (some ⟨w.heap.size,0,none⟩) rs.length A))
  { { w with drawn:=w.drawn+1 }with heap:=w.heap.push (yV E (rcs rs++sp)) }:=by
  have h0:(rcs rs).toArray++Array.replicate (A-rs.length) (aV IntKind.i32 0)=(rcs rs++sp).toArray:=by
   simp[sp]
  simp only[execOp,ho,convert,O.eval hx,str,aB,run_underlying hS,run_underlying hT,aA,run_underlying hE,Conv.stringToRunes,size_mk,hr,Z,run_choose,Question.forced,newRow,run_newObj,yL,if_false,aS];rw[show(aN rs.length 0 E).cut (w.tape w.drawn (aN rs.length 0 E))=A from rfl,h0];rfl
 rw[M];simp only[aG,hd];exact hK _ _ _ (k w.heap.size A sp G.size) _ _ (O.put hn) ((G.drewN (w.drawn+1)).alloc _)
theorem c6Z{base sz n xs g}(h:AL base sz n xs g):∃p c,gV n g= .slice p n c:=by
 cases g with
 |none=>obtain⟨rfl,_⟩:=h;exact⟨none,0,rfl⟩
 |some q=>obtain⟨b,c,sp⟩:=q;exact⟨_,c,rfl⟩
theorem b7k{base sz n xs g}(h:AL base sz n xs g){x T E}(A:o.op= .call ⟨.builtin .len,#[x],#[T]⟩)(G:ev e x=some (gV n g))(M:cx.P.underlying T=some (.slice E)):BN cx o e S (i64 (n:Int)):=by
 obtain⟨p,c,N⟩:=c6Z h;exact QT A (G.trans (zC some N)) M
theorem c3k{G T E x} r {b c}{cs:List Value}{t fr}(M:o.op= .convert G T x)(N:ev e x=some (.slice (some ⟨b,0,none⟩) 1 c))
 (O:cx.P.underlying G=some (.slice E))(Q:cx.P.underlying T=some .string)(Z:cx.P.underlying E=some (.int .i32))(hb:yX S b (.cells cs.toArray t fr))(hl:cs[0]?=some (.int .i32 r)):
 BN cx o e S (str (Utf8.encode r).data.toList):=by
 intro a w ha hs;have hc:∀j v,[aV .i32 r][j]?=some v→w.cell? ((⟨b,0,none⟩:Addr).add j)=some v:=fun j v A=>by
  rw[aT];refine cell_of_heap (hb w hs) ?_;cases j with
  |zero=>simp at A;subst A;simpa using hl
  |succ j=>simp at A
 have h1:=run_loadCells_list (P:=cx.P) (w:=w) ⟨b,0,none⟩ [aV .i32 r] hc;have h2:(loadCells ⟨b,0,none⟩ 1).run cx.P w= .ok #[aV .i32 r] w:=h1;simp only[execOp,M,convert,ha.eval N,aB,run_underlying O,run_underlying Q,aA,run_underlying Z,Conv.runesToString,h2];simp[str]
end
section
variable {cx:Cx} {Q:Qt} {o:Oper} {e:Env} {I:Heap} {H:HL} {C:Ct} {S:World→Prop}
theorem a0i{x y T U l m}(G:o.op= .binOp .lss T x y U)(M:ev e x=some (str l))(N:ev e y=some (str m)):BN cx o e S (.bool (decide (l<m))):=by
 intro a w A _;have h:=aI l m;simp[execOp,G,A.eval M,A.eval N,str,eqGuard_at_string,binOp,bF,h]
theorem b2A{x y T U l m}(G:o.op= .binOp .geq T x y U)(M:ev e x=some (str l))(N:ev e y=some (str m)):BN cx o e S (.bool (!decide (l<m))):=by
 intro a w A _;have h:=aI l m;simp[execOp,G,A.eval M,A.eval N,str,eqGuard_at_string,binOp,bF,h]
theorem c0V{x y T U l m}(G:o.op= .binOp .gtr T x y U)(M:ev e x=some (str l))(N:ev e y=some (str m)):BN cx o e S (.bool (!(decide (l<m) || l == m))):=by
 intro a w A _;have h:=aI l m;simp[execOp,G,A.eval M,A.eval N,str,eqGuard_at_string,binOp,bF,h]
theorem d0B{x y T U k p q}(G:o.op= .binOp .and T x y U)(M:ev e x=some (.int k p))(N:ev e y=some (.int k q)):
 BN cx o e S (.int k (k.wrap ((bT k.bits p &&& bT k.bits q).toNat:Int))):=by
 intro a w A _;simp[execOp,G,A.eval M,A.eval N,eqGuard,binOp,Op.intBits]
end
theorem Le.mono{I J K}(h:Le I J)(k:Le J K):Le I K:=h.trans k
theorem Ej.c7l{A fn}{G:Ending→Heap→HL→Prop}{e I H H' t M T b n x}{cs:List Value}{ty fr}(hk:Keeps H' H)(hr:fn.results= #[.cell t T,.tmp M])(O:A.ds=[])(hv:eg e t=some (ptr b 0))
 (hb:yX (SS I H) b (.cells cs.toArray ty fr))(Q:∀w,(isAgg T).run A.P w= .ok true w)(Z:∀w,(sizeOf T).run A.P w= .ok n w)(hn:cs.length=n)(hx:eg e M=some x)(hp:G (.returned (.tuple #[.agg cs.toArray,x])) I H'):
 Ej A (bodyPost A.P fn (RR A.w0 A.D A.I0 G)) .ret e I H:=by
 intro a w N hs;refine⟨N.defs.trans O,_,?_,I,H',hs.sublist hk,hp⟩;have h1:=N.get t _ hv;have h3:=N.get M _ hx;have hc:∀j v,cs[j]?=some v→w.cell? ((⟨b,0,none⟩:Addr).add j)=some v:=fun j v hj=>by
  rw[aT];exact cell_of_heap (hb w hs.ss) (by simpa using hj)
 have h2:=run_loadCells_list (P:=A.P) (w:=w) ⟨b,0,none⟩ cs hc;rw[hn]at h2;simp[results,hr,h1,h3,asAddr,loadVar,Q,Z,h2]
theorem Ej.b3L{A fn}{G:Ending→Heap→HL→Prop}{e I H H' t T b n}{cs:List Value}{ty fr}(hk:Keeps H' H)(hr:fn.results= #[.cell t T])(M:A.ds=[])(hv:eg e t=some (ptr b 0))
 (hb:yX (SS I H) b (.cells cs.toArray ty fr))(N:∀w,(isAgg T).run A.P w= .ok true w)(O:∀w,(sizeOf T).run A.P w= .ok n w)(hn:cs.length=n)(hp:G (.returned (.agg cs.toArray)) I H'):
 Ej A (bodyPost A.P fn (RR A.w0 A.D A.I0 G)) .ret e I H:=by
 intro a w Q Z;refine⟨Q.defs.trans M,_,?_,I,H',Z.sublist hk,hp⟩;have h1:=Q.get t _ hv;have hc:∀j v,cs[j]?=some v→w.cell? ((⟨b,0,none⟩:Addr).add j)=some v:=fun j v hj=>by
  rw[aT];exact cell_of_heap (hb w Z.ss) (by simpa using hj)
 have h2:=run_loadCells_list (P:=A.P) (w:=w) ⟨b,0,none⟩ cs hc;rw[hn]at h2;simp[results,hr,h1,asAddr,loadVar,N,O,h2]
end Go.Sx
namespace Go.Sx
open Go Go.Sort Go.Proofs
theorem b2n{w b T}{l:List (List UInt8)}{sp}(h:w.heap[b]?=some (yV T (l.map str++sp))):Holds encStr w b 0 l.toArray:=fun j A=>by
 have G:j<l.length:=by simpa using A
 have h1:(l.map str++sp)[j]?=some (str l[j]):=EL (xG G);have h2:l.toArray[j]! =l[j]:=by rw[getElem!_pos _ j A];simp
 refine⟨?_,?_⟩
 ·rw[h2];simp only[World.cell?,h,yV,sS];simpa[str]using h1
 simp only[World.frozen?,h,yV];simp
theorem c9R{l l':List (List UInt8)}{sp}(A:l'.length=l.length):putCells encStr 0 l'.toArray (l.map str++sp).toArray=(l'.map str++sp).toArray:=by
 apply yT
 intro k;simp only[putCells,Array.getElem?_mapIdx,wY,List.size_toArray,sQ,true_and,sS,Nat.sub_zero];rcases tC k l.length with h|h
 ·have h1:(l.map str++sp)[k]?=some (str l[k]):=EL (xG h);have h2:(l'.map str++sp)[k]?=some (str (l'[k]'oM)):=EL (xG oM);have h3:l'.toArray[k]! =l'[k]'oM:=by rw[getElem!_pos _ k (by simpa using(oM:k<l'.length))];simp
  rw[h1,h2,sN,zF oM,h3];rfl
 rw[xI (by simpa using h),xI (by simp;omega),wO,wO,A];cases sp[k-l.length]? with
 |none=>rfl
 |some v=>rw[sN,zD oM]
theorem St.row{w I b T}{l l':List (List UInt8)}{sp} n os (hr:Ready I [(b,yV T (l.map str++sp))] w)(hl:l'.length=l.length):
 St w [b] I I [(b,yV T (l'.map str++sp))] (grow (putRow encStr (aH w n) b 0 l'.toArray) os):=by
 obtain⟨r1,r2,_,Z⟩:=hr;have hb:=r2 _ (vN.2 rfl);have N:∀{c:Nat} {o':Obj},w.heap[c]?=some o'→c<w.heap.size:=fun {c o'} A=>by
  rcases tC c w.heap.size with O|O
  ·exact O
  simp[yR O]at A
 have a1:(putRow encStr (aH w n) b 0 l'.toArray).heap.size=w.heap.size:=by simp[putRow,mapBlock,aH]
 have G:∀c,c<w.heap.size→c≠b→(grow (putRow encStr (aH w n) b 0 l'.toArray) os).heap[c]?=w.heap[c]?:=fun c A a0=>by
  simp only[grow];rw[yS oM];simp only[putRow,mapBlock,aH,yQ,zD (Ne.symm a0)]
 have Q:(grow (putRow encStr (aH w n) b 0 l'.toArray) os).heap[b]?=some (yV T (l'.map str++sp)):=by
  have a2:=N hb;simp only[grow];rw[yS oM];simp only[putRow,mapBlock,aH,yQ,if_true];rw[hb];simp only[sN,onCells,yV];rw[c9R hl]
 refine⟨rfl,rfl,rfl,?_,?_,?_,?_,sI,?_,?_,fun _ _=>rfl,bH _,a2u⟩
 ·simp only[grow,Array.size_append];omega
 ·intro c A hd;exact G c A (by simpa using hd)
 ·intro c o A;have h1:=r1 c o A;refine(G c (N h1) ?_).trans h1;rintro rfl;have:=Z _ (vN.2 rfl);rw[this]at A;cases A
 ·intro p M;rw[vN.1 M];exact Q
 ·intro p M;rw[vN.1 M];exact Z (b,yV T (l.map str++sp)) (vN.2 rfl)
 intro p M;rw[vN.1 M];exact .inl (.head _)
end Go.Sx
namespace Go.Sx
open Go
theorem YL{α:Type}{f:α→List Value}{n:Nat}(A:∀x,(f x).length=n){sp:List Value}:∀{l:List α} {k:Nat} {x:α},l[k]?=some x→((l.flatMap f++sp).drop (k*n)).take n=f x
 |[],_,_,h=>by simp at h
 |y::l,0,x,h=>by
  simp at h;subst h;rw[Nat.zero_mul,xU,xO,yE,←A y,bI]
 |y::l,k+1,x,h=>by
  have G:l[k]?=some x:=by simpa using h
  have:=YL A (sp:=sp) G;rw[xO,yE,show(k+1)*n=(f y).length+k*n by rw[A y,Nat.add_mul];omega,←xY,List.drop_left];exact this
theorem a1O{α:Type}{f:α→List Value}{n:Nat}(A:∀x,(f x).length=n){sp:List Value}{l:List α}{k:Nat}{x:α}(h:l[k]?=some x)(j:Nat)(G:j<n):(l.flatMap f++sp)[k*n+j]?=(f x)[j]?:=by
 rw[←YL A (sp:=sp) h,wZ,zF G,xH]
theorem AY{α:Type}{f n}(A:∀x,(f x).length=n){cs sp:List Value}{o}{l:List α}(h:cs.drop o=l.flatMap f++sp){k x}(G:l[k]?=some x):(cs.drop (o+k*n)).take n=f x:=by
 rw[←xY,h];exact YL A G
theorem BO{α:Type}{f n}(A:∀x,(f x).length=n){cs sp:List Value}{o}{l:List α}(h:cs.drop o=l.flatMap f++sp){k x}(G:l[k]?=some x) j (M:j<n):cs[o+k*n+j]?=(f x)[j]?:=by
 rw[←a1O A (sp:=sp) G j M,←h,xH,bP]
def zJ {α:Type} (f:α→List Value) (I:Heap) (l:List α) (v:Value):Prop:=
 ∃p c,v= .slice p l.length c∧l.length≤c∧(l≠[]→∃b o cs t fr sp,p=some ⟨b,o,none⟩∧I b=some (.cells (List.toArray cs) t fr)∧cs.drop o=l.flatMap f++sp)
theorem zJ.mono{α:Type}{f:α→List Value}{I A:Heap}{l:List α}{v:Value}(h:zJ f I l v)(G:Le I A):zJ f A l v:=
 let ⟨p,c,h1,h2,h3⟩:=h;⟨p,c,h1,h2,fun M=>let ⟨b,o,cs,t,fr,sp,N,O,Q⟩:=h3 M;⟨b,o,cs,t,fr,sp,N,G _ _ O,Q⟩⟩
theorem zJ.of{α:Type}{f:α→List Value}{I:Heap}{l:List α}{T b c:Nat}{sp:List Value}(A:l.length≤c)(G:I b=some (yV T (l.flatMap f++sp))):zJ f I l (.slice (some ⟨b,0,none⟩) l.length c):=
 ⟨_,c,rfl,A,fun _=>⟨b,0,_,T,_,sp,rfl,G,rfl⟩⟩
theorem zJ.nil{α:Type}{f I}:zJ f I ([]:List α) (.slice none 0 0):=⟨none,0,rfl,tH _,fun h=>absurd rfl h⟩
theorem zK{α:Type}{l:List α}{k}(h:k<l.length):l≠[]:=fun e=>by rw[e]at h;simp at h
theorem Cj.join{A Q x y e I H}{ι:Type}(G:ι→Prop)(M:ι→Env)(O:ι→Heap)(Z:ι→HL)(k2:∀i,G i→Cj A Q y (M i) (O i) (Z i))
 (k1:(∀j e' N H',G j→Sub (M j) e'→O j=N→Z j=H'→Ej A (Exit.then (y.wpIn A.F 0 A.P Q) Q) .normal e' N H')→Cj A (Exit.then (y.wpIn A.F 0 A.P Q) Q) x e I H):Cj A Q (.seq x y) e I H:=
 Cj.seq (k1 fun j e' N H' hj hs hI hH=>Ej.seq (by subst hI hH;exact Cj.weak hs (k2 j hj)))
theorem Ej.c7w{A fn}{G:Ending→Heap→HL→Prop}{e I H H' t M T b n x}{cs:List Value}{ty fr}(hk:Keeps H' H)(hr:fn.results= #[.tmp M,.cell t T])(O:A.ds=[])(hv:eg e t=some (ptr b 0))
 (hb:yX (SS I H) b (.cells cs.toArray ty fr))(Q:∀w,(isAgg T).run A.P w= .ok true w)(Z:∀w,(sizeOf T).run A.P w= .ok n w)(hn:cs.length=n)(hx:eg e M=some x)(hp:G (.returned (.tuple #[x,.agg cs.toArray])) I H'):
 Ej A (bodyPost A.P fn (RR A.w0 A.D A.I0 G)) .ret e I H:=by
 intro a w N hs;refine⟨N.defs.trans O,_,?_,I,H',hs.sublist hk,hp⟩;have h1:=N.get t _ hv;have h3:=N.get M _ hx;have hc:∀j v,cs[j]?=some v→w.cell? ((⟨b,0,none⟩:Addr).add j)=some v:=fun j v hj=>by
  rw[aT];exact cell_of_heap (hb w hs.ss) (by simpa using hj)
 have h2:=run_loadCells_list (P:=A.P) (w:=w) ⟨b,0,none⟩ cs hc;rw[hn]at h2;simp[results,hr,h1,h3,asAddr,loadVar,Q,Z,h2]
theorem BZ{α:Type}{f:α→List Value}{sz}(A:∀x,(f x).length=sz):∀l:List α,(l.flatMap f).length=l.length*sz
 |[]=>sI
 |a::r=>by rw[xO,wV,A a,BZ A r,wU,Nat.add_mul];omega
theorem ZN{α:Type}(f:α→List Value)(l:List α)(x:α):(l++[x]).flatMap f=l.flatMap f++f x:=sI
section
variable {cx:Cx} {Q:Qt} {e:Env} {I:Heap} {R:HL} {T:TypeId} {α:Type} {l:List α} {f:α→List Value} {sz n base:Nat} {g:Gs}
theorem b3Z{X:Heap→HL→Prop}(O:∀x,(f x).length=sz)(G:0<sz)(M:AL base sz n (l.flatMap f) g)(Q:n=l.length)(Z:∀b o,base≤b→(∀A,Le I A→A b=some o→X A R)→X I ((b,o)::R))(k:∀A,Le I A→zJ f A l (gV n g)→X A R):X I (gH T (l.flatMap f) g++R):=by
 subst Q;cases g with
 |none=>
  obtain⟨h1,h2⟩:=M;have:l=[]:=wR.1 h1;subst this;exact k I (bH _) zJ.nil
 |some q=>
  obtain⟨b,c,sp⟩:=q;obtain⟨h1,h2,h3⟩:=M;have hc:l.length≤c:=by
   rw[BZ O]at h3;exact aO (oM:l.length*sz≤c*sz) G
  exact Z b _ h1 fun A N hb=>k A N ⟨_,c,rfl,hc,fun _=>⟨b,0,_,T,_,sp,rfl,hb,rfl⟩⟩
theorem Cj.keepR{c}(M:∀x,(f x).length=sz)(A:0<sz)(N:AL cx.w0.heap.size sz n (l.flatMap f) g)(O:n=l.length)(k:∀G,Le I G→zJ f G l (gV n g)→Cj cx Q c e G R):Cj cx Q c e I (gH T (l.flatMap f) g++R):=
 b3Z (X:=fun I H=>Cj cx Q c e I H) M A N O (fun _ _ Z k=>Cj.persist Z k) k
theorem Ej.keepR{x}(M:∀x,(f x).length=sz)(A:0<sz)(N:AL cx.w0.heap.size sz n (l.flatMap f) g)(O:n=l.length)(k:∀G,Le I G→zJ f G l (gV n g)→Ej cx Q x e G R):Ej cx Q x e I (gH T (l.flatMap f) g++R):=
 b3Z (X:=fun I H=>Ej cx Q x e I H) M A N O (fun _ _ Z k=>Ej.persist Z k) k
theorem a2S n g:aK (gV n g)=true:=by
 cases g with
 |none=>rfl
 |some q=>obtain⟨b,c,sp⟩:=q;rfl
end
section
variable {cx:Cx} {o:Oper} {e:Env} {S:World→Prop}
theorem a4l{x y}{T E n c sz j:Nat}{b kl}(M:o.op= .slice T x none (some y) none)(N:ev e x=some (.slice b n c))(O:ev e y=some (.int kl (j:Int)))(Q:cx.P.underlying T=some (.slice E))(G:∀w,(sizeOf E).run cx.P w= .ok sz w)(Z:j≤c):
 BN cx o e S (.slice b j c):=by
 intro a w A _;have h1:(j:Int)≤c:=oM;cases b with
 |none=>simp[execOp,M,A.eval N,A.eval O,bQ,bV,run_underlying Q,bC,run_sliceBound,h1,G]
 |some q=>
  simp[execOp,M,A.eval N,A.eval O,bQ,bV,run_underlying Q,bC,run_sliceBound,h1,G,Addr.add]
end
theorem zJ.take{α:Type}{f:α→List Value}{I:Heap}{l:List α}{p:Option Addr}{c:Nat}(h:zJ f I l (.slice p l.length c)){m:Nat}(A:m≤l.length):zJ f I (l.take m) (.slice p m c):=by
 obtain⟨_,_,G,_,M⟩:=h;cases G;refine⟨p,c,by rw[wI,sW A],by rw[wI];omega,fun N=>?_⟩;have O:l≠[]:=fun e=>N (by rw[e];simp);obtain⟨b,o,cs,t,fr,sp,h1,h2,h3⟩:=M O;refine⟨b,o,cs,t,fr,(l.drop m).flatMap f++sp,h1,h2,?_⟩;rw[h3,←yE,←xP,uD]
theorem IZ{α:Type}(A G M:List α):(A++(M++G)).Perm (A++(G++M)):=aY A uQ
theorem b5D{α:Type}{f}:∀{l:List α},(∀x∈l,(f x).all aK=true)→(l.flatMap f).all aK=true
 |[],_=>rfl
 |a::r,h=>by rw[xO,List.all_append,h a (.head _),b5D fun x A=>h x (.tail _ A)];rfl
theorem Src.row{P I H}{α:Type}{f:α→List Value}{sz:Nat}{l v}(G:∀x,(f x).length=sz)(h:zJ f I l v)(h1:∀x∈l,(f x).all aK=true):Src P I H sz l.length v (l.flatMap f):=by
 obtain⟨p,c,rfl,_,M⟩:=h;cases l with
 |nil=>exact Src.nil
 |cons a r=>
  obtain⟨b,o,cs,t,fr,sp,rfl,h2,h3⟩:=M sI;have A:=BZ G (a::r);exact Src.slice (yX.YR h2) (by rw[h3,←A,bI]) A (b5D h1)
def ZX:HL→Heap→Heap
 |[],I=>I
 |(b,o)::r,I=>hput b o (ZX r I)
theorem a1r:∀{H:HL} {I:Heap},(H.map (·.1)).Nodup→∀p∈H,ZX H I p.1=some p.2
 |[],_,_,p,hp=>by cases hp
 |(b,o)::r,I,hn,p,hp=>by
  rw[wF,vJ]at hn;unfold ZX hput;rcases vX.1 hp with e|e
  ·rw[e];simp
  have:p.1≠b:=fun g=>hn.1 (by rw[←g];exact vT (f:=(·.1)) e);rw[zD this];exact a1r hn.2 p e
theorem a0v:∀{H:HL} {I:Heap} {b:Nat},b ∉ H.map (·.1)→ZX H I b=I b
 |[],_,_,_=>rfl
 |(c,o)::r,I,b,h=>by
  rw[wF,vX,not_or]at h;unfold ZX hput;rw[zD h.1];exact a0v h.2
theorem b3t{H I}(G:∀p∈H,I p.1=none):Le I (ZX H I):=fun b o A=>by
 by_cases h:b∈H.map (·.1)
 ·obtain⟨p,M,rfl⟩:=vU.1 h;rw[G p M]at A;cases A
 rw[a0v h];exact A
def hless (H:HL) (J:Heap):Heap:=fun b=>if b∈H.map (·.1)then none else J b
theorem c3P{H J b}(h:b ∉ H.map (·.1)):hless H J b=J b:=zD h
theorem yY.borrow{P f args I B}{O:Ending→Heap→HL→Prop}(h:yY P f args (ZX B I) [] O):
 yY P f args I B (fun e I' H'=>∃J K,O e J K∧H'=B++K∧I'=hless B J∧∀p∈B,J p.1=some p.2):=by
 refine⟨h.1,fun w hw=>?_⟩;obtain⟨r1,r2,Q,r4⟩:=hw;have hr:Ready (ZX B I) [] w:=by
  unfold Ready;refine⟨fun b o G=>?_,(fun p A=>by cases A),List.Pairwise.nil,(fun p A=>by cases A)⟩
  by_cases M:b∈B.map (·.1)
  ·obtain⟨p,A,rfl⟩:=vU.1 M;rw[a1r Q p A]at G;cases G;exact r2 p A
  rw[a0v M]at G;exact r1 b o G
 refine(h.2 w hr).mono ?_;rintro e w' ⟨J,K,N,A⟩;have Z:∀p∈B,J p.1=some p.2:=fun p A=>N.le _ _ (a1r Q p A);have a1:∀p∈B,p.1<w.heap.size:=fun p A=>by
  have:=r2 p A;rcases tC p.1 w.heap.size with g|g
  ·exact g
  rw[yR g]at this;cases this
 have a0:∀q∈K,q.1 ∉ B.map (·.1):=fun q hq M=>by
  obtain⟨p,A,he⟩:=vU.1 M;have:=N.dis q hq;rw[←he,Z p A]at this;cases this
 refine⟨hless B J,B++K,⟨N.os,N.tape,N.output,N.size,fun b G _=>N.frm b G sI,fun b o G=>?_,fun p A=>?_,?_,fun p A=>?_,fun p A=>?_,fun b G=>?_,fun b o G=>?_,a2u⟩,J,K,A,rfl,rfl,Z⟩
 ·unfold hless at G
  split at G
  ·cases G
  exact N.sub b o G
 ·rcases wB.1 A with g|g
  ·exact N.sub _ _ (Z p g)
  exact N.own p g
 ·rw[wG,vK];refine⟨Q,N.nodup,fun x hx y hy he=>?_⟩;obtain⟨q,hq,rfl⟩:=vU.1 hy;exact a0 q hq (he▸hx)
 ·unfold hless
  split
  ·rfl
  rename_i M
  rcases wB.1 A with g|g
  ·exact absurd (vT g) M
  exact N.dis p g
 ·rcases wB.1 A with g|g
  ·exact .inl (vT g)
  rcases N.new p g with k|k
  ·cases k
  exact .inr k
 ·unfold hless
  split
  ·rename_i M
   obtain⟨p,A,rfl⟩:=vU.1 M;exact(r4 p A).symm
  rename_i M
  rw[N.ifr b G,a0v M]
 have M:b ∉ B.map (·.1):=fun M=>by
  obtain⟨p,A,rfl⟩:=vU.1 M;rw[r4 p A]at G;cases G
 rw[c3P M];exact N.le b o (by rw[a0v M];exact G)
theorem yY.b1p{P f args I H}{A:Ending→Heap→HL→Prop}(M:Enters P f)(h:(H.map (·.1)).Nodup→(∀p∈H,I p.1=none)→yY P f args I H A):yY P f args I H A:=
 ⟨M,fun w G=>(h G.2.2.1 G.2.2.2).2 w G⟩
section
variable {cx:Cx} {Q:Qt} {e:Env} {I:Heap} {R:HL}
theorem a5C{X:Heap→HL→Prop}{base}(G:∀I b o R,base≤b→(∀A,Le I A→A b=some o→X A R)→X I ((b,o)::R)):∀(B:HL) (I:Heap),(∀p∈B,base≤p.1)→(∀A,Le I A→(∀p∈B,A p.1=some p.2)→X A R)→X I (B++R)
 |[],I,_,k=>k I (bH _) fun p G=>by cases G
 |(b,o)::r,I,hb,k=>G I b o (r++R) (hb _ (.head _)) fun A N Q=>a5C G r A (fun p G=>hb p (.tail _ G)) fun Z M O=>k Z (N.trans M) fun p G=>by
  rcases vX.1 G with g|g
  ·rw[g];exact M _ _ Q
  exact O p g
theorem J.persists{A l} B (G:∀p∈B,cx.w0.heap.size≤p.1)(k:∀M,Le I M→(∀p∈B,M p.1=some p.2)→J cx Q A l e M R):J cx Q A l e I (B++R):=
 a5C (X:=fun I H=>J cx Q A l e I H) (fun _ _ _ _ G k=>J.persist G k) B I G k
end
def RV {α:Type} (T:TypeId) (f:α→List Value) (I:Heap) (l:List α) (v:Value):Prop:=
 ∃p c,v= .slice p l.length c∧l.length≤c∧(l≠[]→∃b sp,p=some ⟨b,0,none⟩∧I b=some (yV T (l.flatMap f++sp)))
theorem RV.mono{α:Type}{T:TypeId}{f:α→List Value}{I A:Heap}{l:List α}{v:Value}(h:RV T f I l v)(G:Le I A):RV T f A l v:=
 let ⟨p,c,h1,h2,h3⟩:=h;⟨p,c,h1,h2,fun M=>let ⟨b,sp,N,O⟩:=h3 M;⟨b,sp,N,G _ _ O⟩⟩
theorem RV.row{α:Type}{T:TypeId}{f:α→List Value}{I:Heap}{l:List α}{v:Value}(h:RV T f I l v):zJ f I l v:=
 let ⟨p,c,h1,h2,h3⟩:=h;⟨p,c,h1,h2,fun A=>let ⟨b,sp,G,M⟩:=h3 A;⟨b,0,_,T,_,sp,G,M,rfl⟩⟩
theorem RV.nil{α:Type}{T f I}:RV T f I ([]:List α) (.slice none 0 0):=⟨none,0,rfl,tH _,fun h=>absurd rfl h⟩
section
variable {cx:Cx} {Q:Qt} {e:Env} {I:Heap} {R:HL} {T:TypeId} {α:Type} {l:List α} {f:α→List Value} {sz n base:Nat} {g:Gs}
theorem c5r{X:Heap→HL→Prop}(O:∀x,(f x).length=sz)(G:0<sz)(M:AL base sz n (l.flatMap f) g)(Q:n=l.length)(Z:∀b o,base≤b→(∀A,Le I A→A b=some o→X A R)→X I ((b,o)::R))(k:∀A,Le I A→RV T f A l (gV n g)→X A R):X I (gH T (l.flatMap f) g++R):=by
 subst Q;cases g with
 |none=>
  obtain⟨h1,h2⟩:=M;have:l=[]:=wR.1 h1;subst this;exact k I (bH _) RV.nil
 |some q=>
  obtain⟨b,c,sp⟩:=q;obtain⟨h1,h2,h3⟩:=M;have hc:l.length≤c:=by
   rw[BZ O]at h3;exact aO (oM:l.length*sz≤c*sz) G
  exact Z b _ h1 fun A N hb=>k A N ⟨_,c,rfl,hc,fun _=>⟨b,sp,rfl,hb⟩⟩
theorem Cj.d1j{c}(M:∀x,(f x).length=sz)(A:0<sz)(N:AL cx.w0.heap.size sz n (l.flatMap f) g)(O:n=l.length)(k:∀G,Le I G→RV T f G l (gV n g)→Cj cx Q c e G R):Cj cx Q c e I (gH T (l.flatMap f) g++R):=
 c5r (X:=fun I H=>Cj cx Q c e I H) M A N O (fun _ _ Z k=>Cj.persist Z k) k
end
theorem St.d1p{w0 w D A I0 I H}(h:St w0 D I0 I H w)(G:∀b,b∈D↔b∈A):St w0 A I0 I H w:=
 ⟨h.os,h.tape,h.output,h.size,fun b M N=>h.frm b M (fun g=>N ((G b).1 g)),h.sub,h.own,h.nodup,h.dis,fun p O=>(h.new p O).imp (G p.1).1 id,h.ifr,h.le,h.drw⟩
theorem yY.perm{P f args I H H1}{A:Ending→Heap→HL→Prop}(G:H1.Perm H)(h:yY P f args I H1 A):yY P f args I H A:=
 ⟨h.1,fun w M=>by
  obtain⟨N,O,Q,Z⟩:=M;have hr:Ready I H1 w:=⟨N,fun p g=>O p (G.mem_iff.1 g),(G.map _).nodup_iff.2 Q,fun p g=>Z p (G.mem_iff.1 g)⟩;refine(h.2 w hr).mono ?_;rintro e w' ⟨I',K,hk,hq⟩;exact⟨I',K,hk.d1p (fun b=>(G.map _).mem_iff),hq⟩⟩
theorem yY.leave{P f args I H}{M A:Ending→Heap→HL→Prop}(h:yY P f args I H M)(Q:∀e G H',Le I G→M e G H'→∃K S,(K++S).Perm H'∧A e G K):yY P f args I H A:=
 ⟨h.1,fun w Z=>(h.2 w Z).mono fun e w' ⟨G,H',N,hq⟩=>by
  obtain⟨K,S,hk,O⟩:=Q e G H' N.le hq;exact⟨G,K,(N.perm hk).sublist (List.sublist_append_left K S),O⟩⟩
section
variable {cx:Cx} {Q:Qt} {o:Oper} {e:Env} {I:Heap} {H:HL} {C:Ct}
theorem b5H{H1} R {d f fo xs ts Z a0 vs}{M:Ending→Heap→HL→Prop}(hH:H=R++H1)
 (ho:o.op= .call ⟨.value fo,xs.toArray,ts⟩)(hd:o.dst=some d)(hn:aX d cx.n=true)(hf:ev e fo=some (.func (.func f) Z.toArray a0.toArray))(hx:evs e xs=some vs)
 (hs:yY cx.P f (Z++vs++a0) I H1 M)
 (k:∀v G A,Le I G→M (.returned v) G A→C ((d,v)::e) G (R++A))
 (kp:∀O G A,Le I G→M (.panicked O) G A→Ej cx Q (.panic O) e G (R++A))
 (ko:∀G A,¬M .outgrown G A):EZ cx Q o e I H C:=by
 subst hH;refine EZ.perm (H':=H1++R) uQ fun K hK=>?_
 exact zU (C:=fun e' G H'=>∃A,H'=A++R∧C e' G (R++A)) ho hd hn hf hx hs (fun v G A N hp=>⟨A,rfl,k v G A N hp⟩) (fun O G A N hp=>Ej.perm uQ (kp O G A N hp)) ko K
  fun e' G H' ⟨A,hH,hC⟩ a w ha hs=>hK e' G (R++A) hC a w ha (by subst hH;exact hs.perm uQ)
end
section
variable {cx:Cx} {Q:Qt} {o:Oper} {e:Env} {I:Heap} {H:HL} {C:Ct}
theorem b4t{α:Type}[BEq α]{kv:α→Value}{a}{T U:Nat}{m x:Operand}{K E}{G:Value}(O:o.op= .call ⟨.builtin .delete,#[m,x],#[T,U]⟩)(Z:o.dst=none)(hm:ev e m=some (.map none))(hx:ev e x=some G)(M:G=kv a)(hT:cx.P.underlying T=some (.map K E))(hK:FT cx.P K kv)(kk:C e I H):EZ cx Q o e I H C:=by
 intro _ N w0 w A hs;unfold aQ;subst M;have:(execOp w0.eval o).run cx.P w= .ok (.value (.tuple #[])) w:=by
  simp[execOp,O,resolve,invoke,builtin,A.eval hm,A.eval hx,aJ,run_underlying hT,hK.2.1]
 rw[this];simp only[aG,Z];exact N _ _ _ kk _ _ A.XB hs
end
section
variable {cx:Cx} {Q:Qt} {o:Oper} {e:Env} {I:Heap} {H:HL} {C:Ct} {S:World→Prop} {α:Type} [BEq α] [LawfulBEq α]
def XZ (m since:Nat) (vis:ML α) (last:Nat):Obj:= .mapIter (some m) since (vis.map (·.2.2)).toArray last
omit [BEq α] [LawfulBEq α] in
theorem MJ{T K E d m c:Nat}{x:Operand}{kv:α→Value}{l:ML α}(M:o.op= .range T x)(N:o.dst=some d)(O:aX d cx.n=true)(Z:ev e x=some (.map (some m)))(hu:cx.P.underlying T=some (.map K E))(hb:yX (SS I H) m (zZ kv l c))
 (k:∀b,cx.w0.heap.size≤b→C ((d,ptr b 0)::e) I ((b,XZ m c ([]:ML α) c)::H)):EZ cx Q o e I H C:=by
 intro _ hK a w G A;unfold aQ;have:(execOp a.eval o).run cx.P w= .ok (.value (ptr w.heap.size 0)) { w with heap:=w.heap.push (XZ m c ([]:ML α) c) }:=by
  have hr:=run_range_map (P:=cx.P) w T K E m _ c hu (hb w A.ss);simp only[execOp,M,G.eval Z,aB,hr,aA,aS];rfl
 rw[this];simp only[aG,N];exact hK _ _ _ (k _ A.size) _ _ (G.put O) (A.alloc _)
theorem OD{T K E d x}(M:o.op= .range T x)(N:o.dst=some d)(O:aX d cx.n=true)(Z:ev e x=some (.map none))(hu:cx.P.underlying T=some (.map K E))
 (k:∀b,cx.w0.heap.size≤b→C ((d,ptr b 0)::e) I ((b,.mapIter none 0 #[] 0)::H)):EZ cx Q o e I H C:=by
 intro _ hK a w A G;unfold aQ;have:(execOp a.eval o).run cx.P w= .ok (.value (ptr w.heap.size 0)) { w with heap:=w.heap.push (.mapIter none 0 #[] 0) }:=by
  have hr:=run_range_nilMap (P:=cx.P) w T K E hu;simp only[execOp,M,A.eval Z,aB,hr,aA,aS];rfl
 rw[this];simp only[aG,N];exact hK _ _ _ (k _ G.size) _ _ (A.put O) (G.alloc _)
theorem QM{d b x}(i:Nat)(M:o.op= .next x false)(N:o.dst=some d)(O:aX d cx.n=true)(Z:ev e x=some (ptr b 0))(hH:H[i]?=some (b,.mapIter none 0 #[] 0))
 (k:C ((d,.tuple #[.bool false])::e) I H):EZ cx Q o e I H C:=by
 intro _ hK a w A G;unfold aQ;have hb:=G.own _ (vS hH);have:(execOp a.eval o).run cx.P w= .ok (.value (.tuple #[.bool false])) w:=by
  simp only[execOp,M,A.eval Z,Instr.next,getObj,aB,bJ,hb,Result.andThen];rfl
 rw[this];simp only[aG,N];exact hK _ _ _ k _ _ (A.put O) G
omit [BEq α] [LawfulBEq α] in
theorem NW{d b m A last c x kv l vis rest} i (ho:o.op= .next x false)(hd:o.dst=some d)(hn:aX d cx.n=true)(hx:ev e x=some (ptr b 0))(hH:H[i]?=some (b,XZ m A vis last))(hm:yX (SS I H) m (zZ kv l c))
 (a6:∀p∈l,p.2.2<A)(a8:A≤last)(a9:(l.map (·.2.2)).Nodup)(N:(vis++rest).Perm l)
 (k1:∀(p:α×Value×Nat) (r:ML α) (H':HL),rest.Perm (p::r)→(vis++[p]++r).Perm l→BL H i (b,XZ m A (vis++[p]) c) H'→C ((d,.tuple #[.bool true,kv p.1,p.2.1])::e) I H')
 (k0:rest=[]→C ((d,.tuple #[.bool false])::e) I H):EZ cx Q o e I H C:=by
 intro _ hK a w ha hs;unfold aQ;have hb:=hs.own _ (vS hH);have aa:=hm w hs.ss;have a7:=run_next_at (P:=cx.P) w o.type b m A last _ _ c hb aa (by
  intro y hy;simp only[vU]at hy;obtain⟨p,N,rfl⟩:=hy;exact a6 p N) a8
 have M:((vis++rest).map (·.2.2)).Nodup:=(N.map _).nodup_iff.2 a9;have Z:(execOp a.eval o).run cx.P w=((Instr.next (.pointer (some ⟨b,0,none⟩)) false o.type).run cx.P w).andThen fun v w'=> .ok (.value v) w':=by
  simp only[execOp,ho,ha.eval hx,aB];rfl
 have a4:∀p:α×Value×Nat,p∈l→((vis.map (·.2.2)).toArray.contains p.2.2=true↔p∈vis):=fun p G=>by
  have ab:p∈vis++rest:=N.mem_iff.2 G;rw[Array.contains_iff_mem];simp only[aU,vU];constructor
  ·rintro⟨q,hq,he⟩;rcases wB.1 ab with h|h
   ·exact h
   rw[wG,vK]at M;exact absurd he (M.2.2 _ (vT hq) _ (vT h))
  exact fun h=>⟨p,h,rfl⟩
 rcases a7 with⟨h0,hr⟩|⟨en,ac,w1,ad,hr⟩
 ·rw[Z,hr];simp only[aA,aG,hd];refine hK _ _ _ (k0 ?_) _ _ (ha.put hn) hs;rcases rest with _|⟨p,r⟩
  ·rfl
  exfalso
  have G:p∈l:=N.mem_iff.1 (vY _ (.head _));have a1:p ∉ vis:=fun h=>by
   rw[wG,vK]at M;exact M.2.2 _ (vT h) _ (vT (.head _)) rfl
  have:JR kv p∈leftOf (l.map (JR kv)).toArray (vis.map (·.2.2)).toArray:=by
   unfold leftOf;rw[bG];refine⟨by simp only[aU];exact vT G,?_⟩;have:=(not_congr (a4 p G)).2 a1;simp only[Bool.not_eq_true]at this;show(!bK _ p.2.2)=true;rw[this];rfl
  have h1:=Array.eq_empty_of_size_eq_zero h0;rw[h1]at this;simp at this
 rw[Z,hr];simp only[aA,aG,hd];have O:en∈leftOf (l.map (JR kv)).toArray (vis.map (·.2.2)).toArray:=by simpa using ac
 unfold leftOf at O;rw[bG]at O;obtain⟨a5,a2⟩:=O;simp only[aU,vU]at a5;obtain⟨p,G,rfl⟩:=a5;have a1:p ∉ vis:=fun h=>by
  have:=(a4 p G).2 h
  change (!bK _ p.2.2)=true at a2
  rw[this]at a2;cases a2
 have ae:p∈rest:=(wB.1 (N.mem_iff.2 G)).resolve_left a1;obtain⟨r1,r2,af⟩:=List.append_of_mem ae;have a0:rest.Perm (p::(r1++r2)):=by rw[af];exact uP
 have a3:(vis++[p]++(r1++r2)).Perm l:=by
  refine List.Perm.trans ?_ N;rw[yE];exact aY _ a0.symm
 have hset:BL H i (b,XZ m A (vis++[p]) c) (H.set i (b,XZ m A (vis++[p]) c)):=⟨(xC.1 hH).1,rfl⟩;have hk:=k1 p (r1++r2) _ a0 a3 hset;have ag:St cx.w0 cx.D cx.I0 I (H.set i (b,XZ m A (vis++[p]) c)) (ChangeMaps.setBlock w1 b (.mapIter (some m) A ((vis.map (·.2.2)).toArray.push p.2.2) c)):=by
  have he:(.mapIter (some m) A ((vis.map (·.2.2)).toArray.push p.2.2) c:Obj)=XZ m A (vis++[p]) c:=by simp[XZ]
  rw[show(JR kv p).born=p.2.2 from rfl]at *;rw[he];rcases ad with rfl|rfl
  ·exact hs.block hH hset
  exact(hs.drewN (w.drawn+1)).block hH hset
 exact hK _ _ _ hk _ _ (ha.put hn) ag
omit [LawfulBEq α] in
theorem LM{T K E m x}{kv:α→Value}{a z}{A:Value}(O:o.op= .lookup T m x false)(Q:ev e m=some (.map none))(Z:ev e x=some A)(G:A=kv a)(hT:cx.P.underlying T=some (.map K E))(M:FT cx.P K kv)(hz:∀w,(zeroValue E).run cx.P w= .ok z w):BN cx o e S z:=by
 intro w0 w N _;subst G;have h1:=M.1 a [] w;have h2:(aZ K (kv a) []).run cx.P w= .ok none w:=h1;simp[execOp,O,N.eval Q,N.eval Z,Instr.lookup,run_underlying hT,M.2.1,h2,hz]
omit [BEq α] [LawfulBEq α] in
theorem WV{x:Operand}{T K E b c:Nat}{kv:α→Value}{l:ML α}(A:o.op= .call ⟨.builtin .len,#[x],#[T]⟩)(G:ev e x=some (.map (some b)))(M:cx.P.underlying T=some (.map K E))(N:yX S b (zZ kv l c)):BN cx o e S (i64 (l.length:Int)):=by
 intro a w O Q;have h:=N w Q;simp[execOp,A,resolve,invoke,builtin,bU,O.eval G,run_underlying M,goInt,getObj,bJ,h,zZ]
theorem b4y{x T K E}(A:o.op= .call ⟨.builtin .len,#[x],#[T]⟩)(G:ev e x=some (.map none))(M:cx.P.underlying T=some (.map K E)):BN cx o e S (i64 0):=by
 intro a w N _;simp[execOp,A,resolve,invoke,builtin,bU,N.eval G,run_underlying M,goInt]
end
section
variable {P:Program} {K i:TypeId} {f0 f1:Field}
theorem a0s{xs t off v w}(A:∀w,(isAgg t).run P w= .ok false w)(G:xs[off]?=some v):(part t xs off).run P w= .ok v w:=by
 simp[part,A,G]
theorem VE(M:P.underlying K=some (.struct #[f0,f1]))(Q:P.stoodInHeld K=false)(Z:f0.name≠ "_")(n1:f1.name≠ "_")(o0:f0.offset=0)(o1:f1.offset=1)(a0:∀w,(isAgg f0.type).run P w= .ok false w)(a1:∀w,(isAgg f1.type).run P w= .ok false w)
 {x0 x1 y0 y1 A G} w (e0:∀d w,(aP (d+1) f0.type x0 y0).run P w= .ok A w)(N:∀d w,(aP (d+1) f1.type x1 y1).run P w= .ok G w):∀d,(aP (d+2) K (.agg #[x0,x1]) (.agg #[y0,y1])).run P w= .ok (A && G) w:=by
 intro d;have O:P.fieldsOf K= #[f0,f1]:=by simp[Program.fieldsOf,M]
 rw[run_equalIn_struct w (d+1) K _ _ (by rw[O];exact M) Q,O];have p0:∀(a b:Value) w,(part f0.type #[a,b] f0.offset).run P w= .ok a w:=fun a b w=>a0s a0 (by rw[o0];rfl);have p1:∀(a b:Value) w,(part f1.type #[a,b] f1.offset).run P w= .ok b w:=fun a b w=>a0s a1 (by rw[o1];rfl);simp only[Op.eqFields,Z,n1,ne_eq,not_false_eq_true,if_true,aB,p0,p1,e0,N,aA];cases A
 ·simp
 cases G<;>simp[aB,p1,N]
theorem a2A(M:P.underlying K=some (.struct #[f0,f1]))(N:f0.name≠ "_")(O:f1.name≠ "_")(Q:f0.offset=0)(Z:f1.offset=1)(a0:∀w,(isAgg f0.type).run P w= .ok false w)(a1:∀w,(isAgg f1.type).run P w= .ok false w)
 {x0 x1} b w (e0:∀d w,(aC b (d+1) f0.type x0).run P w= .ok () w)(e1:∀d w,(aC b (d+1) f1.type x1).run P w= .ok () w):∀d,(aC b (d+2) K (.agg #[x0,x1])).run P w= .ok () w:=by
 intro d;have p0:∀w,(part f0.type #[x0,x1] f0.offset).run P w= .ok x0 w:=fun w=>a0s a0 (by rw[Q];rfl);have p1:∀w,(part f1.type #[x0,x1] f1.offset).run P w= .ok x1 w:=fun w=>a0s a1 (by rw[Z];rfl);have A:=e0 d;have G:=e1 d;generalize hc:aC b (d+1)=ck at A G;rw[show d+2=(d+1)+1 from rfl,aC];rw[hc];simp[aB,run_underlying M,N,O,p0,p1,A,G]
theorem a1Q{b t k}(A:P.underlying t=some (.int k)) a d w:(aC b (d+1) t (.int k a)).run P w= .ok () w:=by simp[aC,run_underlying A]
theorem FT.c0C(N:P.underlying K=some (.struct #[f0,f1]))(hp:P.stoodInHeld K=false)(O:f0.name≠ "_")(Q:f1.name≠ "_")(Z:f0.offset=0)(o1:f1.offset=1)(t0:f0.type=i)(A:f1.type=i)(G:P.underlying i=some (.int .i64))(M:∀w,(isAgg i).run P w= .ok false w):
 FT P K (fun a:Int×Int=> .agg #[i64 a.1,i64 a.2]):=by
 subst t0;refine FT.equal N (fun a b=>rfl) (fun a b w=>?_) (fun b a w=>?_) (fun a=>?_)
 ·have h:=VE N hp O Q Z o1 M (A▸M) (x0:=i64 a.1) (x1:=i64 a.2) (y0:=i64 b.1) (y1:=i64 b.2) w (fun d w=>run_equalIn_int w d _ .i64 .i64 a.1 b.1 G) (fun d w=>run_equalIn_int w d _ .i64 .i64 a.2 b.2 (A▸G)) 9998;exact h
 ·exact a2A N O Q Z o1 M (A▸M) b w (fun d w=>a1Q G _ d w) (fun d w=>a1Q (A▸G) _ d w) 9998
 show bM (9999+1) _ _=true;simp[bM]
end
section
variable {α:Type} [BEq α] [LawfulBEq α]
def MS (l:ML α) (c:Nat):Prop:=(l.map (·.1)).Nodup∧(l.map (·.2.2)).Nodup∧∀p∈l,p.2.2<c
omit [BEq α] [LawfulBEq α] in
theorem MS.nil:MS ([]:ML α) 0:=⟨.nil,.nil,fun _ h=>by simp at h⟩
theorem WA{l:ML α}{a:α}(h:(l.map (·.1)).Nodup){v:Value}:AQ l a=some v↔∃n,(a,v,n)∈l:=by
 induction l with
 |nil=>simp[AQ]
 |cons p r G=>
  obtain⟨b,u,n⟩:=p;rw[wF,vJ]at h;unfold AQ
  by_cases hab:a=b
  ·subst hab;simp only[BEq.rfl,if_true,Option.some.injEq];constructor
   ·rintro rfl;exact⟨n,.head _⟩
   rintro⟨k,A⟩;rcases vX.1 A with e|e
   ·exact(zC (fun x=>x.2.1) e).symm
   exact absurd (vT (f:=(·.1)) e) h.1
  rw[zD (by simpa using hab),G h.2];constructor
  ·rintro⟨k,A⟩;exact⟨k,.tail _ A⟩
  rintro⟨k,A⟩;rcases vX.1 A with e|e
  ·exact absurd (zC (·.1) e) hab
  exact⟨k,e⟩
theorem IX{l}{a:α}:AQ l a=none↔a ∉ l.map (·.1):=by
 induction l with
 |nil=>simp[AQ]
 |cons p r A=>
  obtain⟨b,u,n⟩:=p;unfold AQ
  by_cases hab:a=b
  ·subst hab;simp
  rw[zD (by simpa using hab),A];simp[hab]
theorem MI l (a b:α) v c:AQ (BF l a v c) b=if b == a then some v else AQ l b:=by
 induction l with
 |nil=>unfold BF AQ;by_cases h:b=a<;>simp[h,AQ]
 |cons p r G=>
  obtain⟨d,u,n⟩:=p;unfold BF
  by_cases had:a=d
  ·subst had;rw[zF sI]
   by_cases h:b=a
   ·subst h;simp[AQ]
   have A:(b == a)=false:=by simpa using h
   simp[AQ,A]
  rw[zD (by simpa using had)]
  by_cases hbd:b=d
  ·subst hbd;have A:(b == a)=false:=by simpa using fun e:b=a=>had e.symm
   simp[AQ,A]
  have A:(b == d)=false:=by simpa using hbd
  simp only[AQ,A,yL,if_false,G]
theorem c1x{l:ML α}{a:α}{v:Value}{c:Nat}:(BF l a v c).map (·.1)=if a∈l.map (·.1)then l.map (·.1)else l.map (·.1)++[a]:=by
 induction l with
 |nil=>simp[BF]
 |cons p r A=>
  obtain⟨d,u,n⟩:=p;unfold BF
  by_cases had:a=d
  ·subst had;simp
  rw[zD (by simpa using had),wF,A]
  by_cases h:a∈r.map (·.1)
  ·simp[h]
  rw[zD h,zD (by simp only[wF,vX,not_or];exact⟨had,h⟩)];rfl
theorem c4t{l}{a x:α}{v c}:x∈(BF l a v c).map (·.1)↔x∈l.map (·.1)∨x=a:=by
 rw[c1x]
 split
 ·rename_i h
  exact⟨.inl,fun g=>g.elim id (fun e=>e▸h)⟩
 simp
theorem MS.set{l:ML α}{c:Nat}(h:MS l c)(a:α)(v:Value):MS (BF l a v c) (EJ l a c):=by
 obtain⟨h1,h2,h3⟩:=h;cases hm:AQ l a with
 |none=>
  obtain⟨-,M⟩:=WR l 0 hm;have ha:=IX.1 hm;rw[M,EJ,hm];refine⟨?_,?_,?_⟩
  ·rw[wG,vK];refine⟨h1,sI,fun x N y A e=>?_⟩;rw[wF,wC,vN]at A;exact ha (by have:x=a:=e.trans A;exact this▸N)
  ·rw[wG,vK];refine⟨h2,sI,fun x N y A e=>?_⟩;rw[wF,wC,vN]at A;obtain⟨p,G,rfl⟩:=vU.1 N;have:=h3 p G;dsimp only at A e;omega
  intro p G;simp only[Option.isSome_none,yL,if_false];rcases wB.1 G with g|g
  ·exact Nat.lt_succ_of_lt (h3 p g)
  rw[vN]at g;subst g;exact sZ _
 |some u=>
  obtain⟨j,u',n,-,O,M⟩:=a2p l 0 hm;have Q:∀f:α×Value×Nat→Nat ⊕ α,f (a,v,n)=f (a,u',n)→(l.set j (a,v,n)).map f=l.map f:=fun f hf=>by
   apply List.ext_getElem?
   intro i;rw[xB,xB,xA]
   by_cases hi:j=i
   ·subst hi;rw[zF rfl,O,zF (xC.1 O).1];simp[hf]
   rw[zD hi]
  have e1:(l.set j (a,v,n)).map (·.1)=l.map (·.1):=by
   have:=zC (List.map (fun s:Nat ⊕ α=>match s with| .inr x=>x| .inl _=>a)) (Q (fun p=> .inr p.1) rfl);simpa[wE,bD]using this
  have Z:(l.set j (a,v,n)).map (·.2.2)=l.map (·.2.2):=by
   have:=zC (List.map (fun s:Nat ⊕ α=>match s with| .inl x=>x| .inr _=>0)) (Q (fun p=> .inl p.2.2) rfl);simpa[wE,bD]using this
  rw[M,EJ,hm];refine⟨by rw[e1];exact h1,by rw[Z];exact h2,fun p G=>?_⟩;have:p.2.2∈l.map (·.2.2):=Z▸vT G;obtain⟨q,hq,e⟩:=vU.1 this;exact e▸h3 q hq
end
section
variable {cx:Cx} {Q:Qt} {o:Oper} {e:Env} {S:World→Prop} {α:Type} [BEq α] [LawfulBEq α]
omit [BEq α] [LawfulBEq α] in
theorem RQ{b m A c x kv}{l vis:ML α}{p:α×Value×Nat}(M:o.op= .entry x)(N:ev e x=some (ptr b 0))(O:yX S b (XZ m A (vis++[p]) c))(Q:yX S m (zZ kv l c))(Z:p∈l)(hn:(l.map (·.2.2)).Nodup):BN cx o e S (.tuple #[kv p.1,p.2.1]):=by
 intro w0 w ha G;have h1:=O w G;have h2:=Q w G;have h3:w.heap[b]?=some (.mapIter (some m) A ((vis.map (·.2.2)).toArray.push (JR kv p).born) c):=by
  rw[h1];simp[XZ,JR]
 have hr:=run_entry_at (P:=cx.P) w b m A _ _ c (JR kv p) h3 h2 (by simp only[vU];exact⟨p,Z,rfl⟩) (by
  rw[wE];exact hn)
 have:(execOp w0.eval o).run cx.P w= .ok (.value (.tuple #[kv p.1,p.2.1])) w:=by
  simp only[execOp,M,ha.eval N,aB,hr,aA,aS]
 exact this
end
section
variable {α:Type} [BEq α] [LawfulBEq α]
def IW (l:ML α) (a:α):ML α:=match l with
 |[]=>[]
 |(b,v,n)::r=>if a == b then r else(b,v,n)::IW r a
omit [LawfulBEq α] in
theorem b4N{a}:∀(l:ML α) (i:Nat),(midx l a i=none∧IW l a=l)∨∃j v,midx l a i=some (i+j,v)∧IW l a=l.eraseIdx j∧j<l.length
 |[],_=> .inl rT
 |(b,v,n)::r,i=>by
  unfold midx IW
  by_cases h:(a == b)=true
  ·rw[zF h,zF h];exact .inr ⟨0,v,rfl,rfl,sI⟩
  rw[zD h,zD h];rcases b4N (a:=a) r (i+1)with⟨h1,h2⟩|⟨j,u,h1,h2,h3⟩
  ·exact .inl ⟨h1,by rw[h2]⟩
  refine .inr ⟨j+1,u,?_,by rw[h2];rfl,by simpa using h3⟩;rw[h1,bP,Nat.add_comm 1 j]
theorem OL{a}:∀{l:ML α},(l.map (·.1)).Nodup→IW l a=l.filter fun p=> !(p.1 == a)
 |[],_=>rfl
 |(b,v,n)::r,h=>by
  rw[wF,vJ]at h;unfold IW
  by_cases hb:(a == b)=true
  ·have G:=zB hb;subst G;rw[zF hb,List.filter_cons_of_neg sI];rw[xQ.2];intro p M;have:p.1≠a:=fun g=>h.1 (vU.2 ⟨p,M,g⟩);simpa using this
  have A:(b == a)=false:=by
   rw[yN];intro g;exact hb (by rw[zB g];simp)
  rw[zD hb,List.filter_cons_of_pos (by simp[A]),OL h.2]
theorem MS.del{l:ML α}{c:Nat}(h:MS l c)(a:α):MS (IW l a) c:=by
 rw[OL h.1];refine⟨h.1.sublist (aF.map _),h.2.1.sublist (aF.map _),fun p A=>h.2.2 p (vW.1 A).1⟩
theorem a4U{l:ML α}(h:(l.map (·.1)).Nodup)(a b:α):AQ (IW l a) b=if b == a then none else AQ l b:=by
 by_cases hb:(b == a)=true
 ·rw[zF hb,IX,OL h];have:=zB hb;subst this;simp
 rw[zD hb];cases hm:AQ l b with
 |none=>
  rw[IX]at hm ⊢;rw[OL h];exact fun g=>hm ((aF.map _).subset g)
 |some v=>
  have h2:((IW l a).map (·.1)).Nodup:=by rw[OL h];exact h.sublist (aF.map _)
  rw[WA h]at hm;obtain⟨n,A⟩:=hm;rw[WA h2,OL h];exact⟨n,vW.2 ⟨A,by simpa using hb⟩⟩
variable {cx:Cx} {Q:Qt} {e:Env} {I:Heap} {H:HL} {o:Oper} {C:Ct} {S:World→Prop}
omit [LawfulBEq α] in
theorem c0j{P:Program}{T U K E b c:Nat}{t:TypeId}{kv:α→Value}{l:ML α}{a:α}{w:World}(G:P.underlying T=some (.map K E))(hk:FT P K kv)(M:w.heap[b]?=some (zZ kv l c)):
 (aJ #[T,U] t #[.map (some b),kv a]).run P w= .ok (.tuple #[]) (aW w b (zZ kv (IW l a) c)):=by
 obtain⟨N,O,_⟩:=hk;have Q:(getObj b).run P w= .ok (zZ kv l c) w:=by simp[getObj,bJ,M,zZ]
 have hset:∀o',(setObj b o').run P w= .ok () (aW w b o'):=fun o'=>by simp[setObj,bJ,M,aW,zZ]
 rcases b4N (a:=a) l 0 with⟨h1,h2⟩|⟨j,v,h1,h2,h3⟩
 ·have A:(aZ K (kv a) (l.map (JR kv))).run P w= .ok none w:=by rw[N,h1]
  simp[aJ,run_underlying G,Q,zZ,O,A,hset,h2]
 rw[sS]at h1;have Z:∀(q:ML α) (k:Nat),(q.map (JR kv)).eraseIdx k=(q.eraseIdx k).map (JR kv):=by
  intro q
  induction q with
  |nil=>intro k;rfl
  | cons x r ih=>intro k;cases k with
    |zero=>rfl
    |succ k=>simp[ih]
 have A:(aZ K (kv a) (l.map (JR kv))).run P w= .ok (some (j,v)) w:=by rw[N,h1]
 have h5:(l.map (JR kv)).toArray.eraseIdxIfInBounds j=(((l.eraseIdx j).map (JR kv)).toArray:Array MapEntry):=by
  rw[Array.eraseIdxIfInBounds,dif_pos (by simpa using h3),List.eraseIdx_toArray,Z]
 simp[aJ,run_underlying G,Q,zZ,O,A,hset,h2,Z]
omit [LawfulBEq α] in
theorem XY{T U K E b c:Nat}{m x:Operand}{kv:α→Value}{l a}{G:Value}{H'}(i:Nat)(ho:o.op= .call ⟨.builtin .delete,#[m,x],#[T,U]⟩)(hd:o.dst=none)(hm:ev e m=some (.map (some b)))(hx:ev e x=some G)(M:G=kv a)(hT:cx.P.underlying T=some (.map K E))(hK:FT cx.P K kv)
 (N:H[i]?=some (b,zZ kv l c))(O:BL H i (b,zZ kv (IW l a) c) H')(kk:C e I H'):EZ cx Q o e I H C:=by
 intro _ Z w0 w A hs;unfold aQ;subst M;have hb:=hs.own _ (vS N);have hr:=c0j (U:=U) (t:=o.type) (a:=a) hT hK hb;have:(execOp w0.eval o).run cx.P w= .ok (.value (.tuple #[])) (aW w b (zZ kv (IW l a) c)):=by
  simp[execOp,ho,resolve,invoke,builtin,A.eval hm,A.eval hx,hr]
 rw[this];simp only[aG,hd];exact Z _ _ _ kk _ _ A.XB (hs.block N O)
end
section
variable {cx:Cx} {o:Oper} {e:Env} {S:World→Prop}
theorem c0f{P w T K E} p (A:P.underlying T=some (.map K E)):(binOp .neq T (.map p) (.map none)).run P w= .ok (.bool p.isSome) w∧(binOp .eql T (.map p) (.map none)).run P w= .ok (.bool p.isNone) w:=by
 have h1:∀d:Nat,(aP (d+1) T (.map p) (.map none)).run P w= .ok p.isNone w:=fun d=>by cases p<;>simp[aP,run_underlying A]
 simp only[binOp];cases p<;>simp[Op.equal,Op.maxDepth,h1 9999]
theorem c3E{x y T U K E} p (G:o.op= .binOp .eql T x y U)(M:ev e x=some (.map p))(N:ev e y=some (.map none))(O:cx.P.underlying T=some (.map K E)):BN cx o e S (.bool p.isNone):=by
 intro a w A _;have Q:=(c0f (P:=cx.P) (w:=w) p O).2;have Z:eqGuard .eql T x y (.map p) (.map none)=pure ():=rfl;simp[execOp,G,A.eval M,A.eval N,Q,Z]
