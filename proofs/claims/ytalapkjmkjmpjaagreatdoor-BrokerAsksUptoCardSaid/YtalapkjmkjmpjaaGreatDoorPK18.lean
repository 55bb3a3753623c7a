/-
  Own texts on the laws of the seat, joined: the logic, and contracts of functions. Conditions: none.
-/
import Derived.Test.YtalapkjmkjmpjaaGreatDoorNmK
import Derived.Test.YtalapkjmkjmpjaaGreatDoorPK17
import Derived.Test.YtalapkjmkjmpjaaGreatDoorPK16
set_option linter.all false
set_option maxRecDepth 100000
set_option maxHeartbeats 40000000
open Ix renaming valsN -> aA,keyOf -> aB,c0r -> aK,MV -> aT,phrase -> bC,c7m -> bD,b3q -> bJ,JD -> bU,b3D -> cZ,isC -> dA,b3G -> dB,within -> dD,JW -> dG,LX -> dK,scan -> dL,a9l -> dN,Rec -> dQ,a1R -> eU
open Ke renaming words -> aC,GL -> aI,nrm -> bH,put -> bP,NU -> dF,Inc -> dZ
open Go.Sx.AX renaming c -> aF,z -> aN,s -> bW
open Go.Sx.Ej renaming round -> aG,perm -> aU,keep -> bM,keepR -> bT,a9v -> dP
open Go.Proofs.Tryz renaming prog -> aH
open Go.Sx.Keeps renaming d -> aJ,r -> aS,k -> aV,n -> eX
open Go.Sx.GU renaming part -> aO,none -> bY
open Go.Sx.JA renaming zt -> aP,tk -> aX,fix -> eP
open Go.Sx.Cj renaming loop -> aQ,EX -> bF,keep -> dW
open Go.Sx.yX renaming RU -> aW,YR -> aY,NI -> dX
open Go.Sx.J renaming z -> aZ,op -> cO
open Go.Sx.Le renaming refl -> bG,trans -> eH
open Bool renaming noConfusion -> bI
open List.Pairwise renaming sublist -> bK
open Go.Sx.HSub renaming c -> bQ,n -> dS
open Go.Value renaming oneCell' -> bV
open Go.Sx.yY renaming toPure -> bZ
open Go.Sx.Src renaming slice -> dH,row -> dV
open Go.Sx.BL renaming z -> dI
open List renaming all_nil -> dJ,filter_cons -> dM,any_filter -> dR,lt_trans -> dY,flatMap -> eF,any_map -> eG
open Go.Sx.CSub renaming n -> dU
section
namespace Go.Proofs.YtalapkjmkjmpjaaGreatDoor
open _root_.Go.Proofs.Tryz
open Go Go.Sx
abbrev c7A (x:List UInt8×Int):Array Value:= #[str x.1,i64 x.2]
theorem d0s:EqK aH 56 c7A:=EqK.c8I a0B kR dE dE rfl rfl rfl rfl AV tU3 DU GZ
theorem c6l{α:Type}{a b:List α}{k x y}(h:a.take k=b.take k)(A:a[k]?=some x)(G:b[k]?=some y)(M:x=y):a.take (k+1)=b.take (k+1):=by
 obtain⟨h1,N⟩:=xC.1 A;obtain⟨h2,O⟩:=xC.1 G;rw[tN h1,tN h2,h,N,O,M]
theorem c3v{l s k}(G:dZ l)(h1:∀x∈l.take k,x<s)(h2:∀x,l[k]?=some x→¬x<s∧x≠s):l.take k++[s]++l.drop k=bP l s:=by
 have O:∀y∈l.drop k,s<y:=by
  rcases tC k l.length with g|g
  ·have h3:=h2 l[k] (AA g);have Q:s<l[k]:=b5X h3.1 (Ne.symm h3.2);intro y A;rw[←wX g]at A;rcases vX.1 A with e|e
   ·rw[e];exact Q
   refine dY Q ?_;have Z:(l.drop k).Pairwise (· <·):=bK (xW k l) G;rw[←wX g]at Z;exact(uY.1 Z).1 y e
  intro y A;rw[xX g]at A;cases A
 refine Ke.a5g ?_ (Ke.b7x s G) fun x=>?_
 ·unfold dZ;rw[vC,vC];refine⟨⟨bK (List.take_sublist k l) G,uT _ _,fun a N b M=>?_⟩,bK (xW k l) G,fun a N b M=>?_⟩
  ·rw[vN.1 M];exact h1 a N
  rcases wB.1 N with g|g
  ·exact dY (h1 a g) (O b M)
  rw[vN.1 g];exact O b M
 rw[Ke.put_mem];have h6:x∈l↔x∈l.take k∨x∈l.drop k:=by rw[←wB,uD]
 rw[h6,wB,wB,vN];constructor
 ·rintro((g|g)|g)
  ·exact .inr (.inl g)
  ·exact .inl g
  exact .inr (.inr g)
 rintro(g|g|g)
 ·exact .inl (.inr g)
 ·exact .inl (.inl g)
 exact .inr g
theorem d0h{l:List (List UInt8)}{s x k}(h:∀y∈l.take k,y<s)(A:l[k]?=some x)(M:x<s):∀y∈l.take (k+1),y<s:=by
 obtain⟨G,A⟩:=xC.1 A;rw[tN G,A];intro y N;rcases wB.1 N with g|g
 ·exact h y g
 rw[vN.1 g];exact M
abbrev a5Y (s:List UInt8):List Value:=[str s]
theorem TS s:(a5Y s).length=1:=rfl
theorem b2G a b s:((([]:List Value)++a.flatMap a5Y)++[str s])++b.flatMap a5Y=(a++[s]++b).flatMap a5Y:=sI
theorem c3h a b va vb (ab:a.length≤100000000000000) I (ha:zJ BH I a va)(hb:zJ BH I b vb):Pure aH 14 [va,vb] I (.bool (decide (a=b))):=by
 refine bZ ?_;obtain⟨p1,c1,rfl,G,a3⟩:=ha;obtain⟨p2,c2,rfl,Q,a4⟩:=hb;refine zN func14 fun w0 _=>?_;refine yZ ?_ ?_<;>intro G a0
 ·have a5:a.length≠b.length:=by have h:=bne_iff_ne.1 G;omega
  refine zM ?_;rw[zI (fun e=>a5 (by rw[e]))];exact rT
 have aa:a.length=b.length:=by have h:=EC G;omega
 refine yU 9 ?_;refine aQ (ι:=Nat) (fun j=>j≤a.length∧a.take j=b.take j) (fun j=>a.length-j) (fun j=>[(0,.slice p1 a.length c1),(1,.slice p2 b.length c2),(5,i64 (j:Int))]) (fun j=>_) (fun j=>[]) 0 ⟨sQ _,rfl⟩ rT rfl rfl ?_;rintro j ⟨_,A⟩;refine yZ ?_ ?_<;>intro Q a1
 ·have Z:j<a.length:=oM;obtain⟨x,O⟩:∃x,a[j]?=some x:=⟨_,AA Z⟩;obtain⟨y,hy⟩:∃y,b[j]?=some y:=⟨_,AA oM⟩;obtain⟨_,oa,_,_,_,_,rfl,a6,a7⟩:=a3 (zK Z);obtain⟨_,ob,DJ,_,_,_,rfl,a8,a9⟩:=a4 (zK (oM:j<b.length));refine yU 5 ?_;refine bF [] [] 9 kR ?_;refine zW (oa+j*2) ?_;refine aP 3 rfl (CX isAgg56 NQ (aW a6) (AY DW a7 O)) ?_;refine zW (ob+j*2) ?_;refine aP 7 rfl (CX isAgg56 NQ (aW a8) (AY DW a9 hy)) ?_;refine aP 8 rfl (b8u (kv:=c7A) (a:=x) (b:=y) rfl rfl rfl rfl rfl d0s kR) ?_;refine yZ ?_ ?_<;>intro M a2
  ·have N:x≠y:=bne_iff_ne.1 M;refine zM ?_;rw[zI (fun e=>N (by rw[e,hy]at O;exact(sK O).symm))];exact rT
  have N:x=y:=EC M;refine yU 8 ?_;refine aG (j+1) ⟨oM,c6l A O hy N⟩ oM rT rfl rfl
 refine zM ?_;rw[tX (oM:a.length≤j),tX (oM:b.length≤j)]at A;rw[zH A];exact rT
theorem b9c a b va vb I (ha:FI I a va)(hb:FI I b vb)(a1:a.length≤10000000000000)(a2:b.length≤10000000000000):Pure aH 221 [vb,va] I (.bool (dD b a)):=by
 refine bZ ?_;obtain⟨p1,c1,rfl,_,-⟩:=id ha;obtain⟨p2,c2,rfl,_,-⟩:=id hb;refine zN func221 fun w0 _=>?_;refine yU 12 ?_;refine aQ (ι:=Nat) (fun k=>k≤a.length+1∧(0<k→0<b.length)∧dD b (a.drop k)=dD b a) (fun k=>a.length+1-k) (fun k=>[(0,.slice p2 b.length c2),(1,.slice p1 a.length c1),(5,i64 (k:Int))]) (fun k=>_) (fun k=>[]) 0 ⟨sQ _,fun h=>absurd h (Nat.lt_irrefl 0),rfl⟩ rT rfl rfl ?_;rintro k ⟨_,a0,Q⟩;refine yZ ?_ ?_<;>intro Z M
 ·have N:k+b.length≤a.length:=oM;refine yU 12 ?_;refine aZ (b1T (j:=k) (k:=(k+b.length)) rfl rfl rfl rfl ED BD rfl oM oM) ?_;refine zO (c8U _ b _ _ (by rw[wI,wS];omega) _ (b3N ha (Nat.le_add_right k b.length) N) hb) ?_;refine DF ?_ ?_<;>intro A
  ·have O:=DK A;rw[tK]at O;refine zM ?_;rw[←Q,a9t O];exact rT
  have G:=DN A;rw[tK]at G;refine yU 8 ?_;refine aG (k+1) ⟨oM,fun _=>wK.2 (fun e=>G (by rw[e];rfl)),by rw[←Q,a7b N G]⟩ oM rT rfl rfl
 refine zM ?_;rw[←Q,a4Y (by rw[wS];rcases Nat.eq_zero_or_pos k with h|h<;>(first|omega|(have:=a0 h;omega)))];exact rT
theorem b2e n s (N:s.length≤100000000) I:Pure aH 220 [str n,str s] I (str (aB n s)):=by
 refine bZ ?_;have Q:=a4m s;refine zN func220 fun w0 _=>?_;refine zO (a7X s N _) ?_;refine EH ?_ ?_<;>intro A
 ·refine yZ ?_ ?_<;>intro G O
  ·have M:aB n s=aI (Ke.WC s).1 0:=zF ⟨A,BP G⟩;refine zO (OC (Ke.WC s).1 0 oM _) ?_;refine zM ?_;rw[M];exact rT
  have M:aB n s=aI s 0:=zD (fun g=>CB G g.2);refine zO (OC s 0 N _) ?_;refine zM ?_;rw[M];exact rT
 have M:aB n s=aI s 0:=zD (fun g=>bI (g.1.symm.trans A));refine zO (OC s 0 N _) ?_;refine zM ?_;rw[M];exact rT
theorem c7L l v s (a0:dZ l)(hl:l.length≤4300000000000) I (a1:FI I l v):yY aH 223 [v,str s] I [] (fun e I' H'=>∃w,e= .returned w∧FI I' (bP l s) w∧H'=[]):=by
 have G:=a1N.1 a1;obtain⟨p,c,rfl,_,hp⟩:=id a1;refine zN func223 fun w0 _=>?_;refine yU 12 ?_;refine aQ (ι:=Nat) (fun k=>k≤l.length∧∀x∈l.take k,x<s) (fun k=>l.length-k) (fun k=>[(0,.slice p l.length c),(1,str s),(5,i64 (k:Int))]) (fun k=>_) (fun k=>[]) 0 ⟨sQ _,fun x hx=>by simp at hx⟩ rT rfl rfl ?_;rintro k ⟨hk,Q⟩;refine DZ ?_ ?_<;>intro ah aa
 ·have M:k<l.length:=oM;obtain⟨x,A⟩:∃x,l[k]?=some x:=⟨_,AA M⟩;obtain⟨lb,lo,ai,aj,al,sp,rfl,a2,a3⟩:=hp (zK M);refine yU 2 ?_;refine J.zg (FZ (off':=lo+k) ED BD) ?_;refine J.zg (DI DU (aY a2) (GR a3 A)) ?_;refine yU 1 ?_;refine J.zg (a0i rfl rfl rfl) ?_;refine DF ?_ ?_<;>intro a4
  ·have a5:x<s:=DK a4;refine yU 9 ?_;refine aG (k+1) ⟨oM,d0h Q A a5⟩ oM rT rfl rfl
  have a5:¬x<s:=DN a4;refine DZ ?_ ?_<;>intro am ab
  ·refine yU 2 ?_;refine J.zg (FZ (off':=lo+k) ED BD) ?_;refine J.zg (DI DU (aY a2) (GR a3 A)) ?_;refine yZ ?_ ?_<;>intro a6 ac
   ·have a7:x=s:=BP a6;refine zV ?_;rw[show bP l s=l from zF (a7▸CJ A)];exact⟨_,rfl,a1,rfl⟩
   have a7:x≠s:=CB a6;refine yU 8 ?_;have an:(l.take k).length=k:=by rw[wI];omega
   have ao:(l.drop k).length=l.length-k:=wS;refine yU 4 ?_;refine aZ (IG (k:=k) rfl rfl rfl ED BD rfl oM) ?_;refine cO rfl (zT (by':=15) (n:=0) (g:=none) (xs:=[]) [] rfl rfl rfl rfl rfl ED (.inr ⟨_,ED⟩) kR BD tZ9 rfl rT rfl (dV TS (zJ.take G hk) (fun x _=>rfl)) oM ?_);intro _ ap;refine yU 8 ?_;intro _ _;refine KT 15 [_] ap ?_;intro _ aq;refine yU 8 ?_;refine aZ (MH (j:=k) rfl rfl rfl ED BD rfl oM oM) ?_;refine cO rfl (zT (by':=15) [_] rfl rfl rfl rfl rfl ED (.inr ⟨_,ED⟩) kR BD tZ9 rfl aq rfl (dV TS (zJ.from TS G (j:=k) hk) (fun x _=>rfl)) oM ?_);intro g8 ar;refine yU 4 ?_;refine bM (aJ aS) ?_;have N:=c3v a0 Q (fun y hy=>by rw[A]at hy;cases hy;exact⟨a5,a7⟩);have O:=(b2G (l.take k) (l.drop k) s).trans (zC (eF a5Y) N);refine aU (H':=gH 9 ((bP l s).flatMap a5Y) g8++[]) (.of_eq (by rw[←O,yD];rfl)) ?_;refine bT TS dE (by rw[←O];exact ar) (by rw[←N];simp only[wV,wJ];omega) (fun I8 ad a8=>?_);refine zM ?_;exact⟨_,rfl,a1N.2 a8,rfl⟩
  omega
 refine yU 23 ?_;refine J.split 25 rfl (fun Z=>?_) (fun Z=>?_)
 ·have a9:=DK Z;have M:k<l.length:=oM;obtain⟨x,A⟩:∃x,l[k]?=some x:=⟨_,AA M⟩;obtain⟨lb,lo,ai,aj,al,sp,rfl,a2,a3⟩:=hp (zK M);omega
 have a9:=DN Z;refine yU 18 ?_;have an:(l.take k).length=k:=by rw[wI];omega
 have ao:(l.drop k).length=l.length-k:=wS;refine yU 4 ?_;refine aZ (IG (k:=k) rfl rfl rfl ED BD rfl oM) ?_;refine cO rfl (zT (by':=15) (n:=0) (g:=none) (xs:=[]) [] rfl rfl rfl rfl rfl ED (.inr ⟨_,ED⟩) kR BD tZ9 rfl rT rfl (dV TS (zJ.take G hk) (fun x _=>rfl)) oM ?_);intro _ ae;refine yU 8 ?_;intro _ _;refine KT 15 [_] ae ?_;intro _ af;refine yU 8 ?_;refine aZ (MH (j:=k) rfl rfl rfl ED BD rfl oM oM) ?_;refine cO rfl (zT (by':=15) [_] rfl rfl rfl rfl rfl ED (.inr ⟨_,ED⟩) kR BD tZ9 rfl af rfl (dV TS (zJ.from TS G (j:=k) hk) (fun x _=>rfl)) oM ?_);intro au ag;refine yU 4 ?_;refine bM (aJ aS) ?_;have N:=c3v a0 Q (fun y hy=>absurd (xC.1 hy).1 oM);have O:=(b2G (l.take k) (l.drop k) s).trans (zC (eF a5Y) N);refine aU (H':=gH 9 ((bP l s).flatMap a5Y) au++[]) (.of_eq (by rw[←O,yD];rfl)) ?_;refine bT TS dE (by rw[←O];exact ag) (by rw[←N];simp only[wV,wJ];omega) (fun I8 ad a8=>?_);refine zM ?_;exact⟨_,rfl,a1N.2 a8,rfl⟩
end Go.Proofs.YtalapkjmkjmpjaaGreatDoor
end
namespace Go.Proofs.YtalapkjmkjmpjaaGreatDoor
open Go Go.Sx
end Go.Proofs.YtalapkjmkjmpjaaGreatDoor
section
namespace Go.Proofs.YtalapkjmkjmpjaaGreatDoor
open _root_.Go.Proofs.Tryz
open Go Go.Sx
def RxS (I:Heap) (rb:Nat) (es:List DT) (p:Option Addr) (c:Nat):Prop:=I rb=some (yV 130 [.slice p es.length c])∧EU I es (.slice p es.length c)
theorem RxS.mono{I G M es p c}(h:RxS I M es p c)(A:Le I G):RxS G M es p c:=⟨A _ _ h.1,h.2.mono A⟩
structure VF (I:Heap) (rb:Nat) (es:List DT):Prop where
  ex:∃p c,RxS I rb es p c
  len:es.length≤1000
  eok:∀e∈es,RI e.fs
  JC:Ix.JB (es.map zQ)
theorem VF.mono{I A G es}(h:VF I G es)(M:Le I A):VF A G es:=⟨let ⟨p,c,g⟩:=h.ex;⟨p,c,g.mono M⟩,h.len,h.eok,h.JC⟩
theorem VF.of{I A es w}(h1:I A=some (yV 130 [w]))(h2:EU I es w)(G:es.length≤1000)(M:∀e∈es,RI e.fs)(N:Ix.JB (es.map zQ)):VF I A es:=by
 obtain⟨p,c,rfl,-⟩:=h2.len;exact⟨⟨p,c,h1,h2⟩,G,M,N⟩
theorem YN{cs sp:List Value}{o k}{es:List DT}{x}(h:cs.drop o=es.flatMap JG++sp)(A:es[k]?=some x):(cs.drop (o+k*5+2)).take 3=[u8 x.k,u8 x.l,x.v]:=by
 have h1:=AY JQ h A;rw[show(cs.drop (o+k*5+2)).take 3=((cs.drop (o+k*5)).take 5).drop 2 by rw[List.drop_take,xY],h1];rfl
def MZ (P:DT→Bool) (es:List DT):List dQ:=(es.filter P).map (·.t)
theorem b2l{P}{es:List DT}{k x}(h:es[k]?=some x):MZ P (es.take (k+1))=MZ P (es.take k)++if P x=true then[x.t]else[]:=by
 obtain⟨A,G⟩:=xC.1 h;unfold MZ;rw[tN A,G,xR,wG]
 by_cases hc:P x=true
 ·rw[List.filter_cons_of_pos hc,zF hc];rfl
 rw[List.filter_cons_of_neg hc,zD hc];rfl
theorem a7L P es:(MZ P es).length≤es.length:=by
 unfold MZ;rw[wO];exact wP _ _
theorem a3F{α:Type}{p}{l:List α}{k x}(h:l[k]?=some x):(l.take (k+1)).any p=((l.take k).any p || p x):=by
 obtain⟨A,G⟩:=xC.1 h;rw[tN A,G,List.any_append];simp
def wIn (w:Ke.Row) (x:List UInt8×Nat):Bool:=dD w (aC x.1)
def kIn (k:List UInt8) (x:List UInt8×Nat):Bool:=decide (aI x.1 x.2=k)
def XJ (n:List UInt8) (w:Ke.Row) (e:DT):Bool:=(aA e.fs n).any (wIn w)
def a8E (n k:List UInt8) (e:DT):Bool:=(aA e.fs n).any (kIn k)
theorem c9S n w e:Ix.a1F n w (Ix.vals e.fs)=XJ n w e:=by
 unfold XJ Ix.a1F;rw[←cZ,eG,dR];rfl
theorem c4V n k e:Ix.hasK n k (Ix.vals e.fs)=a8E n k e:=by
 unfold a8E Ix.hasK;rw[←cZ,eG,dR];rfl
theorem c3H(f:List Ix.V→Bool) P (h:∀e,f (Ix.vals e.fs)=P e) es:((es.map zQ).filter fun e=>f e.2).map (·.1)=MZ P es:=by
 unfold MZ;rw[List.filter_map,wE];have:(fun e:dQ×List Ix.V=>f e.2)∘zQ=P:=funext fun e=>h e;rw[this];rfl
theorem c8M{es:List DT}{n w k}(h0:k=0∨w≠[])(A:es.length≤k):MZ (XJ n w) (es.take k)=bC (es.map zQ) n w:=by
 unfold bC
 by_cases hw:w=[]
 ·have h1:=h0.resolve_right fun g=>g hw;subst h1;rw[zF hw];rfl
 rw[zD hw,c3H _ _ (fun e=>c9S n w e),tX A]
theorem d1a{es:List DT}{n w k}(h0:k=0∨w≠[])(A:w=[]):MZ (XJ n w) (es.take k)=bC (es.map zQ) n w:=by
 have h1:=h0.resolve_right fun g=>g A;subst h1;unfold bC;rw[zF A];rfl
def QW (n k:List UInt8) (e:DT):Bool:=a8E n k e && decide (k≠[])
theorem b7Z es n k:MZ (QW n k) es=bU (es.map zQ) n k:=by
 unfold bU
 by_cases hk:k=[]
 ·rw[zF hk];unfold MZ QW;rw[List.filter_eq_nil_iff.2 fun e _=>by simp[hk]];rfl
 rw[zD hk];exact(c3H _ (QW n k) (fun e=>by unfold QW;rw[c4V,zH hk,yO]) es).symm
theorem c7h{f n x}(h:x∈Ix.ofN f n):x.1.length≤CZ f.subs+f.subs.length+13:=by
 have G:∀c:List UInt8,(Ke.textOf f c).length≤CZ f.subs+f.subs.length:=MF f;have N:∀(u:List UInt8→List UInt8×Bool) (c:UInt8),(∀s,(u s).2=true→(u s).1.length≤13)→x∈LC u c f.subs→x.1.length≤CZ f.subs+f.subs.length+13:=fun u c Q O=>by
  unfold LC at O;obtain⟨y,M,rfl⟩:=vU.1 O;obtain⟨s,_,A⟩:=List.mem_filterMap.1 M;unfold RH at A
  split at A
  ·rename_i Z;cases A;have:=Q _ Z.1;dsimp only;omega
  cases A
 by_cases h1:n=aT
 ·rw[TT h1]at h;split at h
  ·rw[vN.1 h];have:=G [97,98];dsimp only;omega
  cases h
 by_cases h2:n=Ix.PO
 ·rw[PX h2]at h;split at h
  ·rw[vN.1 h];have:=G [97];dsimp only;omega
  cases h
 by_cases h3:n=Ix.NC
 ·rw[OA h3]at h;split at h
  ·rw[vN.1 h];have:=G [97,120];dsimp only;omega
  cases h
 by_cases h4:n=Ix.QH
 ·rw[WQ h4]at h;split at h
  ·exact N _ _ (fun s _=>a4m s) h
  cases h
 by_cases h5:n=Ix.a2a
 ·rw[WT h5]at h;split at h
  ·refine N _ _ (fun s hs=>?_) h;unfold uy at hs ⊢;cases M:Ix.a0q s with
   |none=>simp
   |some y=>have:=a8Y M;dsimp only[Option.getD];omega
  cases h
 by_cases h6:n=Ix.RY
 ·rw[RJ h6]at h;split at h
  ·rw[vN.1 h];have:=b7y f;dsimp only;omega
  cases h
 rw[of_none h1 h2 h3 h4 h5 h6]at h;cases h
theorem a0N{fs}(A:RI fs){n x}(h:x∈aA fs n):x.1.length≤3002000:=by
 unfold aA at h;obtain⟨f,G,M⟩:=vV.1 h;have h1:=c7h M;have h2:=A.2 f G;omega
theorem zJ.len{α:Type}{f:α→List Value}{I:Heap}{l:List α}{v:Value}(h:zJ f I l v):∃p c,v= .slice p l.length c:=let ⟨p,c,h1,_⟩:=h;⟨p,c,h1⟩
theorem a8U rb es n s (hs:s.length≤1000000000) I (hx:VF I rb es):yY aH 144 [ptr rb 0,str n,str s] I [] (fun e I' H'=>∃v,e= .returned v∧zJ recC I' (bC (es.map zQ) n (aC s)) v∧H'=[]):=by
 have bd:=hx.len;have ap:=hx.eok;obtain⟨p,c,G⟩:=hx.ex;have A:=G.1;have be:=(dF s).1;refine zN func144 fun w0 _=>?_;refine NG (TY s hs _) ?_;intro _ _ _ aa b1 b2;have G:=G.mono aa;have A:=aa _ _ A;obtain⟨_,b3,h,rfl⟩:=b2;cases h;refine J.NV (b3.base b1) (fun _ ab M=>?_);have G:=G.mono ab;have A:=ab _ _ A;obtain⟨pw,cw,am⟩:=KG M;refine J.eqv 15 rfl am ?_;rw[am]at M;replace M:=FI.of M;refine yU 15 ?_;refine aQ (ι:=Nat×Heap×Gs) (fun y=>y.1≤es.length∧(y.1=0∨(aC s)≠[])∧FI y.2.1 (aC s) (.slice pw (aC s).length cw)∧RxS y.2.1 rb es p c∧AL w0.heap.size 2 (MZ (XJ n (aC s)) (es.take y.1)).length ((MZ (XJ n (aC s)) (es.take y.1)).flatMap recC) y.2.2) (fun y=>es.length-y.1) (fun y=>[(0,ptr rb 0),(1,str n),(7,.slice pw (aC s).length cw),(8,gV (MZ (XJ n (aC s)) (es.take y.1)).length y.2.2),(9,i64 (y.1:Int))]) (fun y=>y.2.1) (fun y=>gH 42 ((MZ (XJ n (aC s)) (es.take y.1)).flatMap recC) y.2.2) (0,_,none) ⟨sQ _,.inl rfl,M,G,rfl,rfl⟩ rT rfl rfl ?_;rintro⟨k,_,g⟩ ⟨hk,ac,M,G,hg⟩;dsimp only at hk ac M G hg ⊢;have A:=G.1;have b4:=a7L (XJ n (aC s)) (es.take k);rw[wI,sW hk]at b4;refine DZ ?_ ?_<;>intro b5 aq
 ·refine yZ ?_ ?_<;>intro b6 ar
  ·have ad:(aC s)≠[]:=zK (k:=0) oM;refine yU 5 ?_;have an:k<es.length:=oM;obtain⟨O,a4⟩:∃x,es[k]?=some x:=⟨_,AA an⟩;have a9:=ap O (CJ a4);obtain⟨p1,c1,b7,_,hp⟩:=id G.2.1;cases b7;obtain⟨_,eo,_,_,_,_,rfl,Q,ao⟩:=hp (zK an);have ae:=G.2.2 O (CJ a4);obtain⟨_,_,_,-,-⟩:=id ae.1;have a0:=b2l (P:=(XJ n (aC s))) a4;refine zW (eo+k*5) ?_;refine aZ (zY (off':=eo+k*5+2) a4X PI) ?_;refine aZ (CX isAgg45 PI (aY Q) (YN ao a4)) ?_;refine zX (a0Q O.fs O.v O.k O.l n a9 _ ae) ?_;intro _ b8 _ a1 au;have G:=G.mono a1;have A:=a1 _ _ A;have M:=M.mono a1;have Q:=a1 _ _ Q;obtain⟨_,h,a2,rfl⟩:=au;cases h;obtain⟨pv,cv,rfl⟩:=zJ.len a2;have bf:(aA O.fs n).length≤1000000:=by have h1:=RX n O.fs (fun f hf=>(a9.2 f hf).1);have h2:=a9.1;omega
   refine yU 15 ?_;refine dW aS ?_;refine aQ (ι:=Nat×Heap) (fun y=>y.1≤(aA O.fs n).length∧Le b8 y.2) (fun y=>(aA O.fs n).length-y.1) (fun y=>[(0,ptr rb 0),(1,str n),(7,.slice pw (aC s).length cw),(8,gV (MZ (XJ n (aC s)) (es.take k)).length g),(9,i64 (k:Int)),(10,.slice pv (aA O.fs n).length cv),(11,.bool (((aA O.fs n).take y.1).any (wIn (aC s)))),(12,i64 (y.1:Int))]) (fun y=>y.2) (fun y=>gH 42 ((MZ (XJ n (aC s)) (es.take k)).flatMap recC) g) (0,_) ⟨sQ _,bG _⟩ rT rfl rfl ?_;rintro⟨j,_⟩ ⟨hj,N⟩;dsimp only at hj N ⊢;have G:=G.mono N;have A:=G.1;have M:=M.mono N;have Q:=N _ _ Q;have a2:=a2.mono N;refine yZ ?_ ?_<;>intro av al
   ·have af:j<(aA O.fs n).length:=oM;obtain⟨x,a3⟩:∃x,(aA O.fs n)[j]?=some x:=⟨_,AA af⟩;have bg:=a0N a9 (CJ a3);obtain⟨p2,c2,aw,_,b9⟩:=id a2;cases aw;obtain⟨vb,vo,_,_,_,_,rfl,a6,ba⟩:=b9 (zK af);refine zW (vo+j*2) ?_;refine yU 1 ?_;refine aZ (BU rfl rfl DU (aY a6) (BO OO ba a3 0 dE)) ?_;refine NG (TY x.1 oM _) ?_;intro _ _ _ Z ax ay;have N:=N.mono Z;have A:=Z _ _ A;have M:=M.mono Z;have Q:=Z _ _ Q;have a6:=Z _ _ a6;obtain⟨_,bb,h,rfl⟩:=ay;cases h;refine J.NV (bb.base ax) (fun _ a5 ag=>?_);have N:=N.mono a5;have A:=a5 _ _ A;have M:=M.mono a5;have Q:=a5 _ _ Q;have a6:=a5 _ _ a6;replace ag:=FI.of ag;refine zO (b9c (aC x.1) (aC s) _ _ _ ag M (by have:=(dF x.1).1;omega) oM) ?_;refine EH ?_ ?_<;>intro a7
    ·have ah:=a7;refine yU 11 ?_;refine aG (j+1,_) ⟨dO,N⟩ dO ⟨rfl,rfl,rfl,rfl,rfl,rfl,by dsimp only;rw[a3F a3,ah];rfl,rfl,trivial⟩ rfl rfl
    have ah:=a7;refine yU 11 ?_;refine aG (j+1,_) ⟨dO,N⟩ dO ⟨rfl,rfl,rfl,rfl,rfl,rfl,by dsimp only;rw[a3F a3,ah,Bool.false_or];rfl,rfl,trivial⟩ rfl rfl
   refine DF ?_ ?_<;>intro a8
   ·have hh:(XJ n (aC s)) O=true:=by have h:=a8;rw[tX oM]at h;exact h
    rw[zF hh]at a0;refine zW (eo+k*5) ?_;refine yU 1 ?_;refine aZ (CX FY BM (aY Q) (a0Z ao a4)) ?_;refine yU 1 ?_;intro _ _;refine KT 15 [_] hg ?_;intro bc az;refine yU 9 ?_;refine bM (aJ aS) ?_;refine aG (k+1,_,bc) ⟨dO,.inr ad,M,G,by dsimp only;rw[a0,wV,xP];exact az⟩ dO ⟨rfl,rfl,rfl,by dsimp only;rw[a0,wV];rfl,rfl,trivial⟩ rfl (by dsimp only;rw[a0,xP];rfl)
   have hh:(XJ n (aC s)) O=false:=by have h:=a8;rw[tX oM]at h;exact h
   rw[zD (fun g=>bI (g.symm.trans hh))]at a0;refine yU 8 ?_;refine aG (k+1,_,g) ⟨dO,.inr ad,M,G,by dsimp only;rw[a0,yD];exact hg⟩ dO ⟨rfl,rfl,rfl,by dsimp only;rw[a0,yD];rfl,rfl,trivial⟩ rfl (by dsimp only;rw[a0,yD])
  refine yU 12 ?_;have ai:=d1a ac (wR.1 oM) (es:=es) (n:=n) (w:=(aC s)) (k:=k);rw[ai]at hg ⊢;refine aU (H':=gH 42 ((bC (es.map zQ) n (aC s)).flatMap recC) g++[]) (.of_eq (yD _)) ?_;refine bT AP dE hg rfl (fun I8 b0 aj=>?_);refine zM ?_;exact⟨_,rfl,aj,rfl⟩
 refine yU 19 ?_;have ai:=c8M ac oM (es:=es) (n:=n) (w:=(aC s)) (k:=k);rw[ai]at hg ⊢;refine aU (H':=gH 42 ((bC (es.map zQ) n (aC s)).flatMap recC) g++[]) (.of_eq (yD _)) ?_;refine bT AP dE hg rfl (fun I8 b0 aj=>?_);refine zM ?_;exact⟨_,rfl,aj,rfl⟩
theorem c4J Q es n s (hs:s.length≤1000000000) I (A:VF I Q es):yY aH 148 [ptr Q 0,str n,str s] I [] (fun e I' H'=>∃v,e= .returned v∧zJ recC I' (Ix.word (es.map zQ) n s) v∧H'=[]):=by
 have a7:=(dF s).1;refine zN func148 fun w0 _=>?_;refine NG (TY s hs _) ?_;intro _ _ _ Z a3 a4;have A:=A.mono Z;obtain⟨_,a5,h,rfl⟩:=a4;cases h;refine J.NV (a5.base a3) (fun _ a0 N=>?_);have A:=A.mono a0;obtain⟨_,cw,O⟩:=KG N;refine J.eqv 8 rfl O ?_;rw[O]at N;replace N:=FI.of N;refine yZ ?_ ?_<;>intro G a1
 ·have M:Ix.word (es.map zQ) n s=[]:=b7A (by have h:=bne_iff_ne.1 G;omega);refine yU 7 ?_;rw[M];refine zM ?_;exact⟨_,rfl,zJ.nil,rfl⟩
 have M:Ix.word (es.map zQ) n s=bC (es.map zQ) n (aC s):=zF (by have h:=EC G;omega);refine zX (a8U Q es n s hs _ A) ?_;intro _ _ _ _ a2;obtain⟨_,h,a6,rfl⟩:=a2;cases h;refine yU 4 ?_;rw[M];refine zM ?_;exact⟨_,rfl,a6,rfl⟩
theorem b4k rb es n key I (hx:VF I rb es):yY aH 219 [ptr rb 0,str n,str key] I [] (fun e I' H'=>∃v,e= .returned v∧zJ recC I' (bU (es.map zQ) n key) v∧H'=[]):=by
 have b0:=hx.len;have ah:=hx.eok;obtain⟨p,c,N⟩:=hx.ex;have a4:=N.1;refine zN func219 fun w0 _=>?_;refine yU 17 ?_;refine aQ (ι:=Nat×Heap×Gs) (fun y=>y.1≤es.length∧RxS y.2.1 rb es p c∧AL w0.heap.size 2 (MZ (QW n key) (es.take y.1)).length ((MZ (QW n key) (es.take y.1)).flatMap recC) y.2.2) (fun y=>es.length-y.1) (fun y=>[(0,ptr rb 0),(1,str n),(2,str key),(7,gV (MZ (QW n key) (es.take y.1)).length y.2.2),(8,i64 (y.1:Int))]) (fun y=>y.2.1) (fun y=>gH 42 ((MZ (QW n key) (es.take y.1)).flatMap recC) y.2.2) (0,_,none) ⟨sQ _,N,rfl,rfl⟩ rT rfl rfl ?_;rintro⟨k,_,g⟩ ⟨hk,N,hg⟩;dsimp only at hk N hg ⊢;have a4:=N.1;have an:=a7L (QW n key) (es.take k);rw[wI,sW hk]at an;refine yZ ?_ ?_<;>intro ad ai
 ·refine yU 5 ?_;have ae:k<es.length:=oM;obtain⟨A,O⟩:∃x,es[k]?=some x:=⟨_,AA ae⟩;have a5:=ah A (CJ O);obtain⟨p1,c1,ao,ad,hp⟩:=id N.2.1;cases ao;obtain⟨_,eo,_,_,_,_,rfl,Q,af⟩:=hp (zK ae);have a7:=N.2.2 A (CJ O);obtain⟨_,_,_,-,-⟩:=id a7.1;have G:=b2l (P:=(QW n key)) O;refine zW (eo+k*5) ?_;refine aZ (zY (off':=eo+k*5+2) a4X PI) ?_;refine aZ (CX isAgg45 PI (aY Q) (YN af O)) ?_;refine zX (a0Q A.fs A.v A.k A.l n a5 _ a7) ?_;intro _ _ _ a0 ap;have N:=N.mono a0;have a4:=a0 _ _ a4;have Q:=a0 _ _ Q;obtain⟨_,h,a6,rfl⟩:=ap;cases h;obtain⟨pv,cv,rfl⟩:=zJ.len a6;have b1:(aA A.fs n).length≤1000000:=by have h1:=RX n A.fs (fun f hf=>(a5.2 f hf).1);have h2:=a5.1;omega
  refine yU 15 ?_;refine dW aS ?_;refine aQ (ι:=Nat) (fun j=>j≤(aA A.fs n).length) (fun j=>(aA A.fs n).length-j) (fun j=>[(0,ptr rb 0),(1,str n),(2,str key),(7,gV (MZ (QW n key) (es.take k)).length g),(8,i64 (k:Int)),(9,.slice pv (aA A.fs n).length cv),(10,.bool (((aA A.fs n).take j).any (kIn key))),(11,i64 (j:Int))]) (fun j=>_) (fun j=>gH 42 ((MZ (QW n key) (es.take k)).flatMap recC) g) 0 (sQ _) rT rfl rfl ?_;intro j _;refine yZ ?_ ?_<;>intro aq aj
  ·have a8:j<(aA A.fs n).length:=oM;obtain⟨x,M⟩:∃x,(aA A.fs n)[j]?=some x:=⟨_,AA a8⟩;have b2:=a0N a5 (CJ M);obtain⟨p2,c2,al,_,ar⟩:=id a6;cases al;obtain⟨vb,vo,_,_,_,_,rfl,au,ag⟩:=ar (zK a8);refine yU 5 ?_;refine bF [] [] 13 kR ?_;have av:=a4;have aw:=Q;have Z:=au;refine zW (vo+j*2) ?_;refine yU 1 ?_;refine aP 4 rfl (BU rfl rfl DU (aW Z) (BO OO ag M 0 dE)) ?_;refine zW (vo+j*2) ?_;refine aP 8 rfl (zY (off':=vo+j*2+1) a0P AZ) ?_;refine aP 9 rfl (BU rfl rfl GZ (aW Z) (BO OO ag M 1 dE)) ?_;refine zO (OC x.1 _ oM _) ?_;refine yZ ?_ ?_<;>intro a1 ab
   ·have a9:kIn key x=true:=zH (BP a1);refine yU 10 ?_;refine aG (j+1) oM oM ⟨rfl,rfl,rfl,rfl,rfl,rfl,by rw[a3F M,a9,Bool.or_true];rfl,rfl,trivial⟩ rfl rfl
   have a9:kIn key x=false:=zI (CB a1);refine yU 8 ?_;refine aG (j+1) oM oM ⟨rfl,rfl,rfl,rfl,rfl,rfl,by rw[a3F M,a9,Bool.or_false];rfl,rfl,trivial⟩ rfl rfl
  refine EH ?_ ?_<;>intro a2
  ·have aa:a8E n key A=true:=by have h:=a2;rw[tX oM]at h;exact h
   refine yZ ?_ ?_<;>intro a3 ac
   ·have hh:(QW n key) A=true:=by unfold QW;rw[aa,zH (bne_iff_ne.1 a3)];rfl
    rw[zF hh]at G;refine zW (eo+k*5) ?_;refine yU 1 ?_;refine aZ (CX FY BM (aY Q) (a0Z af O)) ?_;refine yU 1 ?_;intro _ _;refine KT 15 [_] hg ?_;intro ax am;refine yU 9 ?_;refine bM (aJ aS) ?_;refine aG (k+1,_,ax) ⟨dO,N,by dsimp only;rw[G,wV,xP];exact am⟩ dO ⟨rfl,rfl,rfl,by dsimp only;rw[G,wV];rfl,rfl,trivial⟩ rfl (by dsimp only;rw[G,xP];rfl)
   have hh:(QW n key) A=false:=by unfold QW;rw[zI (fun g=>g (EC a3)),Bool.and_false]
   rw[zD (fun g=>bI (g.symm.trans hh))]at G;refine yU 8 ?_;refine aG (k+1,_,g) ⟨dO,N,by dsimp only;rw[G,yD];exact hg⟩ dO ⟨rfl,rfl,rfl,by dsimp only;rw[G,yD];rfl,rfl,trivial⟩ rfl (by dsimp only;rw[G,yD])
  have aa:a8E n key A=false:=by have h:=a2;rw[tX oM]at h;exact h
  have hh:(QW n key) A=false:=by unfold QW;rw[aa];rfl
  rw[zD (fun g=>bI (g.symm.trans hh))]at G;refine yU 14 ?_;refine aG (k+1,_,g) ⟨dO,N,by dsimp only;rw[G,yD];exact hg⟩ dO ⟨rfl,rfl,rfl,by dsimp only;rw[G,yD];rfl,rfl,trivial⟩ rfl (by dsimp only;rw[G,yD])
 refine yU 12 ?_;have ay:=b7Z es n key;rw[tX (oM:es.length≤k),ay]at hg ⊢;refine aU (H':=gH 42 ((bU (es.map zQ) n key).flatMap recC) g++[]) (.of_eq (yD _)) ?_;refine bT AP dE hg rfl (fun _ _ az=>?_);refine zM ?_;exact⟨_,rfl,az,rfl⟩
theorem a9V A es n s (N:s.length≤100000000) I (O:VF I A es):yY aH 143 [ptr A 0,str n,str s] I [] (fun e Q H'=>∃v,e= .returned v∧zJ recC Q (bU (es.map zQ) n (aB n s)) v∧H'=[]):=by
 refine zN func143 fun w0 _=>?_;refine zO (b2e n s N _) ?_;refine zX (b4k A es n (aB n s) _ O) ?_;intro _ _ _ _ G;obtain⟨_,h,M,rfl⟩:=G;cases h;refine zM ?_;exact⟨_,rfl,M,rfl⟩
end Go.Proofs.YtalapkjmkjmpjaaGreatDoor
end
section
namespace Go.Proofs.YtalapkjmkjmpjaaGreatDoor
open _root_.Go.Proofs.Tryz
open Go Go.Sx
def kOf (b:List UInt8) (x:List UInt8×Nat):List (List UInt8):=if aI x.1 x.2≠[]∧¬aI x.1 x.2<b then[aI x.1 x.2]else[]
def ksP (n b:List UInt8) (es:List DT):List (List UInt8):=es.flatMap fun e=>(aA e.fs n).flatMap (kOf b)
theorem b8E b:∀xs:List (List UInt8×Nat),xs.flatMap (kOf b)=((xs.map fun x=>aI x.1 x.2).filter fun k=>decide (k≠[])).filter fun k=>decide (¬k<b)
 |[]=>rfl
 |x::r=>by
  rw[xO,b8E b r,wF,dM];unfold kOf
  by_cases h1:aI x.1 x.2=[]
  ·rw[zD (fun g=>g.1 h1),zD (by simp[h1])];rfl
  rw[zF (zH h1),dM]
  by_cases h2:aI x.1 x.2<b
  ·rw[zD (fun g=>g.2 h2),zD (fun g=>absurd h2 (DK g))];rfl
  rw[zF ⟨h1,h2⟩,zF (zH h2)];rfl
theorem c2N n b:∀es:List DT,ksP n b es=((es.map zQ).flatMap fun e=>Ix.keysOf n e.2).filter fun k=>decide (¬k<b)
 |[]=>rfl
 |e::r=>by
  have A:=c2N n b r;unfold ksP at A ⊢;rw[xO,A,wF,xO,xR,b8E]
  congr 2
  unfold Ix.keysOf;rw[←cZ,wE];rfl
theorem d0L n b es:(ksP n b es).foldl bP []=Ix.EW (es.map zQ) n b:=by rw[c2N];rfl
theorem b2t{α β:Type}(f:α→List β){l:List α}{k x}(h:l[k]?=some x):(l.take (k+1)).flatMap f=(l.take k).flatMap f++f x:=by
 obtain⟨A,h⟩:=xC.1 h;rw[tN A,h,xP];simp
theorem a9L b:∀xs:List (List UInt8×Nat),(xs.flatMap (kOf b)).length≤xs.length
 |[]=>tH _
 |x::r=>by
  have:=a9L b r;have h1:(kOf b x).length≤1:=by unfold kOf;split<;>simp
  rw[xO,wV,wU];omega
theorem b8o n b:∀es:List DT,(∀e∈es,RI e.fs)→(ksP n b es).length≤es.length*1000000
 |[],_=>by simp[ksP]
 |e::r,h=>by
  have h1:=b8o n b r fun x G=>h x (.tail _ G);have A:=h e (.head _);have h2:=a9L b (aA e.fs n);have h3:=RX n e.fs fun f M=>(A.2 f M).1;have N:=A.1;unfold ksP at h1 ⊢;rw[xO,wV,wU,Nat.add_mul];omega
theorem c1Q(xs:List (List UInt8)):dZ (xs.foldl bP []):=Ke.a3H xs List.Pairwise.nil
theorem b1D{α:Type}{l:List α}{i:Nat}{most}(h0:(i:Int)≤most∨i=0)(A:i≤l.length)(h:l.length≤i∨most≤(i:Int)):l.take i=l.take most.toNat:=by
 rcases h with h|h
 ·rw[tX h];rcases h0 with g|g
  ·rw[tX oM]
  subst g;have:l=[]:=wR.1 oM;subst this;simp
 rcases h0 with g|g
 ·rw[show most.toNat=i by omega]
 rw[show most.toNat=i by omega]
def lnK (L:Ix.Ix) (n k:List UInt8):List UInt8×Nat:=(k,(bU L n k).length)
def lnR (L:Ix.Ix) (n:List UInt8) (ks:List (List UInt8)):List (List UInt8×Int):=(ks.map (lnK L n)).map EI
theorem c5I L n {ks:List (List UInt8)}{i k}(h:ks[i]?=some k):lnR L n (ks.take (i+1))=lnR L n (ks.take i)++[EI (lnK L n k)]:=by
 unfold lnR;rw[YU _ h,wG];rfl
theorem c8o L n ks:(lnR L n ks).length=ks.length:=by unfold lnR;rw[wO,wO]
theorem c2M(es:List DT) n k:(bU (es.map zQ) n k).length≤es.length:=by
 rw[←b7Z];exact a7L _ _
theorem b2p x es t:dK ((x::es).map zQ) t=if x.t=t then some (Ix.vals x.fs)else dK (es.map zQ) t:=by
 unfold dK;rw[wF,List.find?_cons]
 by_cases h:x.t=t
 ·rw[zF h];simp[zQ,h]
 rw[zD h];simp[zQ,h]
theorem a9C:∀{es:List DT} {t:dQ} {e:DT},GY es t=true→es[DY es t]?=some e→dK (es.map zQ) t=some (Ix.vals e.fs)
 |[],_,_,h,_=>by cases h
 |x::r,t,e,h,hg=>by
  rw[ZW]at h;rw[TK]at hg;rw[b2p]
  by_cases hl:Ix.FK x.t t=true
  ·rw[zF hl]at h hg;rw[zD (fun g=>by rw[g,Ix.FU]at hl;cases hl)];exact a9C h hg
  rw[zD hl]at h hg;have A:x.t=t:=by simpa using h
  cases hg;rw[zF A]
theorem b1i:∀{es:List DT} {t:dQ},Ix.JB (es.map zQ)→GY es t=false→dK (es.map zQ) t=none
 |[],_,_,_=>rfl
 |x::r,t,hs,h=>by
  have A:=uY.1 hs;rw[ZW]at h;rw[b2p]
  by_cases hl:Ix.FK x.t t=true
  ·rw[zF hl]at h;rw[zD (fun g=>by rw[g,Ix.FU]at hl;cases hl)];exact b1i A.2 h
  rw[zD hl]at h;have G:x.t≠t:=by simpa using h
  rw[zD G,Ix.a2m];intro y M N;have h1:=A.1 y M;rw[N]at h1;exact hl h1
theorem c4A{es:List DT}{t:dQ}{e:DT}(h:GY es t=true)(A:es[DY es t]?=some e):dG (es.map zQ) t=match (aA e.fs aT)[0]? with
 |none=>[]
 |some x=>aI x.1 x.2:=by
 rw[a5R,a9C h A,←cZ,xB,←List.head?_eq_getElem?,List.head?_filter]
 show(match (Ix.vals e.fs).find? fun v=>decide (v.name=aT)with
  |none=>[]
  |some v=>v.key)=_
 cases (Ix.vals e.fs).find? fun v=>decide (v.name=aT)with
 |none=>rfl
 |some v=>rfl
theorem c1l{es t}(A:Ix.JB (es.map zQ))(h:GY es t=false):dG (es.map zQ) t=[]:=by
 unfold dG;rw[b1i A h]
theorem d0J{a b:List UInt8}(h:(!decide (a<b))=true):¬a<b:=by simpa using h
theorem c9O{a b:List UInt8}(h:(!decide (a<b))=false):a<b:=by simpa using h
theorem a7J rb es n s (hs:s.length≤100000000) most I (hx:VF I rb es):yY aH 146 [ptr rb 0,str n,str s,i64 most] I [] (fun e I' H'=>∃v,e= .returned v∧zJ BH I' ((dL (es.map zQ) n s most).map EI) v∧H'=[]):=by
 have b4:=hx.len;have a8:=hx.eok;obtain⟨p,c,N⟩:=hx.ex;have O:=N.1;refine zN func146 fun w0 _=>?_;refine zO (b2e n s hs _) ?_;refine yU 15 ?_;refine aQ (ι:=Nat×Heap×Value) (fun y=>y.1≤es.length∧RxS y.2.1 rb es p c∧FI y.2.1 ((ksP n (aB n s) (es.take y.1)).foldl bP []) y.2.2) (fun y=>es.length-y.1) (fun y=>[(0,ptr rb 0),(1,str n),(3,i64 most),(9,str (aB n s)),(10,y.2.2),(11,i64 (y.1:Int))]) (fun y=>y.2.1) (fun y=>[]) (0,_,_) ⟨sQ _,N,⟨none,0,rfl,tH _,fun h=>absurd rfl h⟩⟩ rT rfl rfl ?_;rintro⟨k,J1,w⟩ ⟨hk,N,G⟩;dsimp only at hk N G ⊢;have O:=N.1;have ay:=b8o n (aB n s) (es.take k) (fun e he=>a8 e (vO he));rw[wI,sW hk]at ay;refine yZ ?_ ?_<;>intro az b5
 ·refine yU 5 ?_;have b0:k<es.length:=oM;obtain⟨M,a2⟩:∃x,es[k]?=some x:=⟨_,AA b0⟩;have ab:=a8 M (CJ a2);obtain⟨p1,c1,bf,az,hp⟩:=id N.2.1;cases bf;obtain⟨_,eo,_,_,_,_,rfl,ac,bg⟩:=hp (zK b0);have ae:=N.2.2 M (CJ a2);obtain⟨_,_,_,-,-⟩:=id ae.1;have bh:ksP n (aB n s) (es.take (k+1))=ksP n (aB n s) (es.take k)++(aA M.fs n).flatMap (kOf (aB n s)):=b2t _ a2;refine zW (eo+k*5) ?_;refine aZ (zY (off':=eo+k*5+2) a4X PI) ?_;refine aZ (CX isAgg45 PI (aY ac) (YN bg a2)) ?_;refine zX (a0Q M.fs M.v M.k M.l n ab _ ae) ?_;intro _ I3 _ a3 bi;have N:=N.mono a3;have O:=a3 _ _ O;have G:=G.mono a3;have ac:=a3 _ _ ac;obtain⟨vv,h,Q,rfl⟩:=bi;cases h;obtain⟨pv,cv,rfl⟩:=zJ.len Q;have c3:(aA M.fs n).length≤1000000:=by have h1:=RX n M.fs (fun f hf=>(ab.2 f hf).1);have h2:=ab.1;omega
  refine yU 9 ?_;refine aQ (ι:=Nat×Heap×Value) (fun y=>y.1≤(aA M.fs n).length∧Le I3 y.2.1∧FI y.2.1 ((ksP n (aB n s) (es.take k)++((aA M.fs n).take y.1).flatMap (kOf (aB n s))).foldl bP []) y.2.2) (fun y=>(aA M.fs n).length-y.1) (fun y=>[(0,ptr rb 0),(1,str n),(3,i64 most),(9,str (aB n s)),(10,y.2.2),(11,i64 (k:Int)),(12,.slice pv (aA M.fs n).length cv),(13,i64 (y.1:Int))]) (fun y=>y.2.1) (fun y=>[]) (0,_,_) ⟨sQ _,bG _,by dsimp only;rw[List.take_zero,List.flatMap_nil,yD];exact G⟩ rT rfl rfl ?_;rintro⟨j,_,_⟩ ⟨hj,A,G⟩;dsimp only at hj A G ⊢;have N:=N.mono A;have O:=N.1;have Q:=Q.mono A;have bj:=PZ (ksP n (aB n s) (es.take k)++((aA M.fs n).take j).flatMap (kOf (aB n s))) [];have bl:=a9L (aB n s) ((aA M.fs n).take j);rw[wI,sW hj]at bl;rw[wV,wL]at bj;refine yZ ?_ ?_<;>intro bm b6
  ·have af:j<(aA M.fs n).length:=oM;obtain⟨x,Z⟩:∃x,(aA M.fs n)[j]?=some x:=⟨_,AA af⟩;have c4:=a0N ab (CJ Z);have ag:=b2t (kOf (aB n s)) Z;obtain⟨p2,c2,b7,_,bn⟩:=id Q;cases b7;obtain⟨vb,vo,_,_,_,_,rfl,ah,b1⟩:=bn (zK af);refine yU 5 ?_;refine bF [] [] 12 kR ?_;have bo:=O;have bp:=ac;have a5:=ah;refine zW (vo+j*2) ?_;refine yU 1 ?_;refine aP 4 rfl (BU rfl rfl DU (aW a5) (BO OO b1 Z 0 dE)) ?_;refine zW (vo+j*2) ?_;refine aP 8 rfl (zY (off':=vo+j*2+1) a0P AZ) ?_;refine aP 9 rfl (BU rfl rfl GZ (aW a5) (BO OO b1 Z 1 dE)) ?_;refine zO (OC x.1 _ oM _) ?_;refine DZ ?_ ?_<;>intro a9 au
   ·have bq:aI x.1 x.2≠[]:=bne_iff_ne.1 a9;refine yU 2 ?_;refine J.zg (b2A rfl rfl rfl) ?_;refine DF ?_ ?_<;>intro aa
    ·have a6:kOf (aB n s) x=[aI x.1 x.2]:=zF ⟨bq,d0J aa⟩;refine zX (c7L _ _ (aI x.1 x.2) (c1Q _) oM _ G) ?_;intro _ _ _ a0 b8;have A:=A.mono a0;have O:=a0 _ _ O;have G:=G.mono a0;have ah:=a0 _ _ ah;obtain⟨_,h,br,rfl⟩:=b8;cases h;replace G:=br;refine yU 9 ?_;refine aG (j+1,_,_) ⟨dO,A,by dsimp only;rw[ag,a6,←yE,a7r];exact G⟩ dO rT rfl rfl
    have a6:kOf (aB n s) x=[]:=zD (fun g=>g.2 (c9O aa));refine yU 8 ?_;refine aG (j+1,_,_) ⟨dO,A,by dsimp only;rw[ag,a6,yD];exact G⟩ dO rT rfl rfl
   have a6:kOf (aB n s) x=[]:=zD (fun g=>g.1 (EC a9));refine yU 15 ?_;refine aG (j+1,_,_) ⟨dO,A,by dsimp only;rw[ag,a6,yD];exact G⟩ dO rT rfl rfl
  refine yU 11 ?_;refine aG (k+1,_,_) ⟨dO,N,by dsimp only;rw[bh];rw[tX (show(aA M.fs n).length≤j by omega)]at G;exact G⟩ dO rT rfl rfl
 refine yU 6 ?_;have av:es.take k=es:=tX oM;rw[av]at G ay;have ai:=PZ (ksP n (aB n s) es) [];rw[wL]at ai;obtain⟨ks,b2⟩:∃ks,ks=(ksP n (aB n s) es).foldl bP []:=⟨_,rfl⟩;rw[←b2]at G ai;obtain⟨pk,ck,rfl⟩:=FI.len G;have ad:ks=Ix.EW (es.map zQ) n (aB n s):=b2.trans (d0L n (aB n s) es);have bt:VF J1 rb es:=⟨⟨p,c,N⟩,b4,a8,hx.JC⟩;refine yU 11 ?_;refine aQ (ι:=Nat×Heap×Gs) (fun y=>y.1≤ks.length∧((y.1:Int)≤most∨y.1=0)∧Le J1 y.2.1∧AL w0.heap.size 2 (lnR (es.map zQ) n (ks.take y.1)).length ((lnR (es.map zQ) n (ks.take y.1)).flatMap BH) y.2.2) (fun y=>ks.length-y.1) (fun y=>[(0,ptr rb 0),(1,str n),(3,i64 most),(10,.slice pk ks.length ck),(15,gV (lnR (es.map zQ) n (ks.take y.1)).length y.2.2),(16,i64 (y.1:Int))]) (fun y=>y.2.1) (fun y=>gH 56 ((lnR (es.map zQ) n (ks.take y.1)).flatMap BH) y.2.2) (0,_,none) ⟨sQ _,.inr rfl,bG _,rfl,rfl⟩ rT rfl rfl ?_;rintro⟨i,_,g⟩ ⟨hi,aj,A,hg⟩;dsimp only at hi aj A hg ⊢;have hx:=bt.mono A;have G:=G.mono A;have bu:=c8o (es.map zQ) n (ks.take i);rw[wI,sW hi]at bu;refine DZ ?_ ?_<;>intro b9 aw
 ·have al:i<ks.length:=oM;obtain⟨x,a4⟩:∃x,ks[i]?=some x:=⟨_,AA al⟩;have am:=c5I (es.map zQ) n a4;have c5:=c2M es n x;obtain⟨p3,_,ba,_,bv⟩:=id G;cases ba;obtain⟨kb,ko,_,_,_,_,rfl,an,b3⟩:=bv (zK al);refine yZ ?_ ?_<;>intro bb ax
  ·refine yU 4 ?_;refine bF [] [] 17 kR ?_;have bw:=O;have a7:=an;refine zW (ko+i) ?_;refine aP 4 rfl (DI DU (aW a7) (GR b3 a4)) ?_;refine zW (ko+i) ?_;refine aP 10 rfl (DI DU (aW a7) (GR b3 a4)) ?_;refine zX (b4k rb es n x _ hx) ?_;intro _ _ _ a1 bc;have A:=A.mono a1;have an:=a1 _ _ an;obtain⟨vv,h,bx,rfl⟩:=bc;cases h;obtain⟨_,cw,rfl⟩:=zJ.len bx;refine⟨⟨(eH (bG _) a1),dS,dU⟩,?_⟩;refine eP CP (fun ao=>?_);refine aX 12 rfl ao (QT rfl rfl JI) ?_;refine aX 13 rfl ao (zL (pl:= #[(0,1),(1,1)]) rfl rfl QK rfl a0B (fun w=>by simp[AZ,BD]) (aO rfl rfl rfl (aF aN) (aO rfl rfl rfl (bW (aF aN)) bY))) ?_;refine qq2 14 rfl (CY RN NQ QK (DC.agg rfl DC.none) ?_);intro _ _;refine⟨⟨(eH (bG _) a1),dS,dU⟩,?_⟩;refine qq2 15 rfl (zT (by':=23) [_] rfl rfl rfl rfl rfl RN (.inr ⟨_,RN⟩) kR NQ QK rfl hg rfl (dH (yX.at 0 rfl) rfl rfl rfl) oM ?_);intro bz bd;refine yU 10 ?_;refine bM (aJ aS) ?_;refine aG (i+1,_,bz) ⟨dO,.inl dO,A,by dsimp only;rw[am,wV,xP];exact bd⟩ dO ⟨rfl,rfl,rfl,rfl,by dsimp only;rw[am,wV];rfl,rfl,trivial⟩ rfl (by dsimp only;rw[am,xP];rfl)
  refine yU 12 ?_;have ap:=b1D aj hi (.inr oM);have aq:lnR (es.map zQ) n (ks.take i)=(dL (es.map zQ) n s most).map EI:=by rw[ap,ad];rfl
  rw[aq]at hg ⊢;refine aU (H':=gH 56 (((dL (es.map zQ) n s most).map EI).flatMap BH) g++[]) (.of_eq (yD _)) ?_;refine bT DW dE hg rfl (fun I8 be ar=>?_);refine zM ?_;exact⟨_,rfl,ar,rfl⟩
 refine yU 19 ?_;have ap:=b1D aj hi (.inl oM);have aq:lnR (es.map zQ) n (ks.take i)=(dL (es.map zQ) n s most).map EI:=by rw[ap,ad];rfl
 rw[aq]at hg ⊢;refine aU (H':=gH 56 (((dL (es.map zQ) n s most).map EI).flatMap BH) g++[]) (.of_eq (yD _)) ?_;refine bT DW dE hg rfl (fun I8 be ar=>?_);refine zM ?_;exact⟨_,rfl,ar,rfl⟩
theorem b2w rb es t I (hx:VF I rb es):yY aH 89 [ptr rb 0,AB t] I [] (fun e _ H'=>e= .returned (str (dG (es.map zQ) t))∧H'=[]):=by
 have am:=hx.len;have aa:=hx.eok;obtain⟨p,c,hR⟩:=hx.ex;have N:=hR.1;refine zN func89 fun w0 _=>?_;refine yU 3 ?_;intro _ _;refine zO (b3Y rb _ es t oM _ N hR.2) ?_;refine DF ?_ ?_<;>intro O
 ·have Q:GY es t=false:=by have h:=O;simpa using h
  refine yU 7 ?_;rw[c1l hx.JC Q];refine zV ?_;exact rT
 have Q:GY es t=true:=by have h:=O;simpa using h
 have a8:=b2a Q;obtain⟨G,M⟩:∃x,es[DY es t]?=some x:=⟨_,AA a8⟩;have Z:=aa G (CJ M);have a0:=c4A Q M;obtain⟨p1,c1,ae,_,hp⟩:=id hR.2.1;cases ae;obtain⟨_,eo,_,_,_,_,rfl,a1,af⟩:=hp (zK a8);have a4:=hR.2.2 G (CJ M);obtain⟨_,_,_,-,-⟩:=id a4.1;refine zW (eo+DY es t*5) ?_;refine aZ (zY (off':=eo+DY es t*5+2) a4X PI) ?_;refine aZ (CX isAgg45 PI (aY a1) (YN af M)) ?_;refine zX (a0Q G.fs G.v G.k G.l aT Z _ a4) ?_;intro _ _ _ a5 ag;have N:=a5 _ _ N;have a1:=a5 _ _ a1;obtain⟨_,h,a2,rfl⟩:=ag;cases h;obtain⟨_,cv,rfl⟩:=zJ.len a2;have an:(aA G.fs aT).length≤1000000:=by have h1:=RX aT G.fs (fun f hf=>(Z.2 f hf).1);have h2:=Z.1;omega
 refine yZ ?_ ?_<;>intro a6 ab
 ·have ac:(aA G.fs aT)=[]:=wR.1 (by have h:=BP a6;omega);rw[ac]at a0;refine yU 7 ?_;rw[a0];refine zV ?_;exact rT
 have a7:0<(aA G.fs aT).length:=by have h:=CB a6;omega
 obtain⟨x,A⟩:∃x,(aA G.fs aT)[0]?=some x:=⟨_,AA a7⟩;have ao:=a0N Z (CJ A);rw[A]at a0;obtain⟨p2,c2,ad,O,ah⟩:=id a2;cases ad;obtain⟨vb,vo,_,_,_,_,rfl,ai,a9⟩:=ah (zK a7);refine yU 3 ?_;refine bF [0] [] 10 kR ?_;have aj:=N;have al:=a1;have a3:=ai;refine zW (vo+0*2) ?_;refine yU 1 ?_;refine aP 3 rfl (BU rfl rfl DU (aW a3) (BO OO a9 A 0 dE)) ?_;refine zW (vo+0*2) ?_;refine aP 6 rfl (zY (off':=vo+0*2+1) a0P AZ) ?_;refine aP 7 rfl (BU rfl rfl GZ (aW a3) (BO OO a9 A 1 dE)) ?_;refine zO (OC x.1 _ oM _) ?_;refine yU 5 ?_;rw[a0];refine zV ?_;exact rT
end Go.Proofs.YtalapkjmkjmpjaaGreatDoor
end
section
namespace Go.Proofs.YtalapkjmkjmpjaaGreatDoor
open _root_.Go.Proofs.Tryz
open Go Go.Sx
def In64 (a:Int):Prop:= -9223372036854775808≤a∧a≤9223372036854775807
theorem c2A{a}(h:In64 a) m (A:2≤m): -4611686018427387904≤a.tdiv m∧a.tdiv m≤4611686018427387904:=by
 unfold In64 at h;have h1:(a.tdiv m).natAbs=a.natAbs / m.natAbs:=Int.natAbs_tdiv a m;have h2:a.natAbs / m.natAbs≤a.natAbs / 2:=Nat.div_le_div_left oM dE;omega
theorem b1x{j:Nat}{m}(A:j≤3)(h0:0≤m)(h1:m≤2):0≤(j:Int)*(1+m)∧(j:Int)*(1+m)≤9:=by
 match j,A with
 |0,_=>simp
 |1,_=>simp;omega
 |2,_=>simp;omega
 |3,_=>simp;omega
abbrev VO (q:Ix.Four):List Value:=[i64 q.x0,i64 q.x1,i64 q.x2,i64 q.x3]
theorem c3r q:(VO q).length=4:=rfl
structure a0l (q:Ix.Four):Prop where
  h0:In64 q.x0
  h1:In64 q.x1
  h2:In64 q.x2
  h3:In64 q.x3
theorem b0A{l:List (List UInt8)}{n}(h0:0≤n)(h1:n<(l.length:Int)):(l.map str)[n.toNat]?=some (str (l.getD n.toNat [])):=by
 have h2:n.toNat<l.length:=oM;rw[xB,AA h2,xK,AA h2];rfl
theorem c4i{l:List UInt8}{n}(h0:0≤n)(h1:n<(l.length:Int)):l[n.toNat]?=some (l.getD n.toNat 0):=by
 have h2:n.toNat<l.length:=oM;rw[AA h2,xK,AA h2];rfl
theorem b8D fs f:bH (fs++[f])=bH fs++[Ke.b4S f]:=by unfold bH;rw[wG];rfl
theorem c8Z fs:(bH fs).length=fs.length:=wO _
theorem c6s fs:Ix.vals (bH fs)=Ix.vals fs:=by
 unfold Ix.vals bH;rw[List.flatMap_map];rfl
def QZ (q:Ix.Four) (n:Nat):List Ke.Sub:=(List.range n).map fun j=>Ix.b9J q j
theorem a3m q n:QZ q (n+1)=QZ q n++[Ix.b9J q n]:=by unfold QZ;rw[List.range_succ,wG];rfl
theorem b1C q n:(QZ q n).length=n:=by unfold QZ;rw[wO,List.length_range]
theorem c7u{q}(h:dA (aK q.x0)):dB q=⟨aK q.x0,[],eU q.x3,.slice none 0 0,[]⟩:=zF h
theorem c7n{q}(h:¬dA (aK q.x0)):dB q=⟨aK q.x0,bD.getD (q.x1 % 8).toNat [],[],.slice none 0 0,QZ q (1+(q.x2 % 3).toNat)⟩:=zD h
theorem c5W n:(aK n).length≤3:=by
 unfold aK;generalize (n % 20).toNat=k;rcases tC k 20 with h|h
 ·have:∀k,k<20→(dN.getD k []).length≤3:=dE;exact this k h
 rw[xK,xE (by simpa[dN]using h)];simp
theorem c4N n:(bD.getD n []).length≤2:=by
 rcases tC n 8 with h|h
 ·have:∀k,k<8→(bD.getD k []).length≤2:=dE;exact this n h
 rw[xK,xE (by simpa[bD]using h)];simp
theorem b9y q:(dB q).subs.length≤3∧CZ (dB q).subs≤51∧(dB q).ind.length≤2:=by
 by_cases h:dA (aK q.x0)
 ·rw[c7u h];exact⟨sI,by simp[CZ],sI⟩
 rw[c7n h];refine⟨by dsimp only;rw[b1C];omega,?_,c4N _⟩;dsimp only;have A:∀n,CZ (QZ q n)≤n*17:=by
  intro n
  induction n with
  |zero=>simp[CZ,QZ]
  |succ n G=>
   rw[a3m];unfold CZ at G ⊢;rw[wG,List.sum_append];have h1:(Ix.b9J q n).text.length≤17:=Ix.a5F _;simp only[wF,wC,uI,List.sum_nil];omega
 have:=A (1+(q.x2 % 3).toNat);omega
theorem c7k{l fs}(h:bH fs=bJ l):RI fs:=by
 have M:fs.length≤20:=by
  rw[←c8Z,h];unfold bJ;rw[wO,wI];omega
 refine⟨oM,fun f A=>?_⟩;have h1:Ke.b4S f∈bJ l:=by rw[←h];exact vT A
 obtain⟨q,_,G⟩:=vU.1 h1;have h2:=b9y q;rw[G]at h2;exact⟨by have:f.subs.length≤3:=h2.1;omega,by have:CZ f.subs≤51:=h2.2.1;omega,by have:f.ind.length≤2:=h2.2.2;omega⟩
theorem b9B{α:Type}(A S Z:List α):(S++(A++Z)).Perm (A++(S++Z)):=by
 rw[←yE,←yE];exact List.Perm.append_right Z uQ
def YK (N:Nat→Prop) (I:Heap) (fs:List Ke.FN) (v:Value):Prop:=KZ N 92 IQ I fs v∧∀f∈fs,KZ N 89 XL I f.subs f.sv
theorem YK.mono{N:Nat→Prop}{I G fs v}(h:YK N I fs v)(A:Le I G):YK N G fs v:=⟨h.1.mono A,fun f M=>(h.2 f M).mono A⟩
theorem YK.imp{N M:Nat→Prop}{I fs v}(h:YK N I fs v)(A:∀b,N b→M b):YK M I fs v:=⟨h.1.imp A,fun f G=>(h.2 f G).imp A⟩
theorem YK.rec{N:Nat→Prop}{I fs v}(h:YK N I fs v):KC I fs v:=⟨h.1.row,fun f A=>(h.2 f A).row⟩
def VP (N:Nat→Prop) (I:Heap) (fs:List Ke.FN):Prop:=∀f∈fs,KZ N 89 XL I f.subs f.sv
theorem VP.mono{N:Nat→Prop}{I A fs}(h:VP N I fs)(G:Le I A):VP N A fs:=fun f M=>(h f M).mono G
theorem VP.nil{N:Nat→Prop}{I}:VP N I []:=fun _ h=>by cases h
theorem VP.add{N:Nat→Prop}{I fs f}(h:VP N I fs)(h1:KZ N 89 XL I f.subs f.sv):VP N I (fs++[f]):=fun x A=>by
 rcases wB.1 A with g|g
 ·exact h x g
 rw[vN.1 g];exact h1
theorem a1a n m (A:0<m)(G:m≤1000000000) I:Pure aH 48 [i64 n,i64 m] I (i64 (n % m)):=by
 have h1:=Int.tmod_lt_of_pos n A;have h2:=Int.lt_tmod_of_pos n A;refine zN func48 fun w0 _=>?_;refine yU 14 ?_;refine J.ez 11 (i64 (n % m)) rfl (zC i64 (mod_eq n A)) ?_;refine zM ?_;exact rT
theorem c8Q n I:Pure aH 111 [i64 n] I (str (aK n)):=by
 refine bZ ?_;refine zN func111 fun w0 _=>?_;refine yU 8 ?_;intro _ _;refine zO (a1a n 20 dE dE _) ?_;refine zW ((n % 20).toNat) ?_;refine aZ (BU rfl rfl DU (yX.at 0 rfl) (b0A (l:=dN) oM (by simp[dN];omega))) ?_;refine zV ?_;exact rT
theorem a3R n I:Pure aH 19 [i64 n] I (str (eU n)):=by
 refine bZ ?_;refine zN func19 fun w0 _=>?_;refine yU 8 ?_;intro _ _;refine zO (a1a n 20 dE dE _) ?_;refine zW ((n % 20).toNat) ?_;refine aZ (BU rfl rfl DU (yX.at 0 rfl) (b0A (l:=Ix.a1P) oM (by simp[Ix.a1P];omega))) ?_;refine zV ?_;exact rT
theorem a4M{α:Type}{l:List α}{k}(A:k≤l.length)(h:k≤20∧(l.length≤k∨20≤k)):l.take k=l.take 20:=by
 rcases h.2 with g|g
 ·rw[tX g,tX oM]
 rw[show k=20 by omega]
theorem c2o l v (am:∀q∈l,a0l q) I (aa:zJ VO I l v):yY aH 67 [v] I [] (fun e I' H'=>∃fs w,e= .returned (a1A 97 109 w)∧YK (I · =none) I' fs w∧bH fs=bJ l∧H'=[]):=by
 obtain⟨p,c,rfl,_,-⟩:=id aa;refine zN func67 fun w0 ab=>?_;refine yU 3 ?_;intro b1 _;refine J.ER (aZ (zL (pl:= #[(0,1),(1,1),(2,1)]) rfl rfl zeroValue45 rfl b4T (fun w=>by simp[sizeOf43,tS5]) (aO rfl rfl rfl (aF aN) (aO rfl rfl rfl (bW (aF aN)) bY))) ?_);refine cO rfl (EN rfl rfl rfl zeroValue45 rfl ?_);intro b2 _;refine cO rfl (CG 0 PI (aF (aF (aF aN))) dI ?_);refine J.a2t (Cj.region (aZ BI ?_));refine J.ns (Cj.block ?_);refine aQ (ι:=Nat×Heap×List Ke.FN×Gs) (fun y=>y.1≤l.length∧y.1≤20∧Le I y.2.1∧VP (w0.heap.size≤·) y.2.1 y.2.2.1∧bH y.2.2.1=(l.take y.1).map dB∧y.2.2.1.length=y.1∧AL w0.heap.size 4 y.2.2.1.length (y.2.2.1.flatMap IQ) y.2.2.2) (fun y=>20-y.1) (fun y=>[(0,.slice p l.length c),(2,ptr b1 0),(3,ptr b2 0),(4,i64 (y.1:Int))]) (fun y=>y.2.1) (fun y=>(b2,yV 45 [u8 97,u8 109,gV y.2.2.1.length y.2.2.2])::(b1,yV 45 [u8 0,u8 0,.slice none 0 0])::gH 92 (y.2.2.1.flatMap IQ) y.2.2.2) (0,_,[],none) ⟨sQ _,sQ _,bG _,VP.nil,rfl,rfl,rfl,rfl⟩ rT rfl rfl ?_;rintro⟨k,Jh,fs,g⟩ ⟨hk,ad,A,O,hN,a3,hg⟩;dsimp only at hk ad A O hN a3 hg ⊢;have hv:=aa.mono A;refine DZ ?_ ?_<;>intro an ae
 ·refine yZ ?_ ?_<;>intro ao af
  ·refine yU 5 ?_;have ac:k<l.length:=oM;have hlt2:k<20:=oM;obtain⟨q,G⟩:∃x,l[k]?=some x:=⟨_,AA ac⟩;have hq:=am q (CJ G);obtain⟨p1,c1,ap,_,hp⟩:=id hv;cases ap;obtain⟨lb,lo,_,_,_,sp,rfl,a2,aq⟩:=hp (zK ac);have htl:=c5W q.x0;refine zW (lo+k*4) ?_;refine aZ (CX isAgg210 sizeOf210 (aY a2) (AY c3r aq G)) ?_;refine yU 1 ?_;intro b5 _;refine zO (c8Q q.x0 _) ?_;refine aZ (zL (pl:= #[(0,1),(1,1),(2,1),(3,1)]) rfl rfl a2x rfl a9X (fun w=>by simp[BD,sizeOf90]) (aO rfl rfl rfl (aF aN) bY)) ?_;refine cO rfl (EN rfl rfl rfl a2x rfl ?_);intro b6 _;refine cO rfl (CG 0 KX (aF (aF (aF (aF aN)))) dI ?_);refine J.ns ?_;refine Cj.join (ι:=Unit) (fun _=>¬dA (aK q.x0)) (fun _=>[(0,.slice (some ⟨lb,lo,none⟩) l.length c),(2,ptr b1 0),(3,ptr b2 0),(4,i64 (k:Int)),(5,ptr b5 0),(6,ptr b6 0)]) (fun _=>Jh) (fun _=>(b6,yV 92 [str (aK q.x0),str [],str [],.slice none 0 0])::(b5,yV 210 (VO q))::(b2,yV 45 [u8 97,u8 109,gV fs.length g])::(b1,yV 45 [u8 0,u8 0,.slice none 0 0])::gH 92 (fs.flatMap IQ) g) ?_ (fun a4=>?_)
   ·rintro _ Q;refine yU 3 ?_;intro _ _;refine zO (a1a q.x1 8 dE dE _) ?_;refine zW ((q.x1 % 8).toNat) ?_;refine aZ (BU rfl rfl DU (yX.at 0 rfl) (b0A (l:=bD) oM (by simp[bD];omega))) ?_;refine yU 5 ?_;obtain⟨N,ar⟩:∃N:Nat,N=1+(q.x2 % 3).toNat:=⟨_,rfl⟩;have b3:N≤3:=oM;refine zO (a1a q.x2 3 dE dE _) ?_;refine yU 1 ?_;refine J.ez 58 (i64 (N:Int)) rfl (zC i64 oM) ?_;refine yU 5 ?_;refine dW (aJ aS) ?_;refine yU 5 ?_;refine dW (aV (aV (aV (aV aS)))) ?_;refine aQ (ι:=Nat×Gs) (fun y=>y.1≤N∧AL w0.heap.size 2 (QZ q y.1).length ((QZ q y.1).flatMap XL) y.2) (fun y=>N-y.1) (fun y=>[(0,.slice (some ⟨lb,lo,none⟩) l.length c),(2,ptr b1 0),(3,ptr b2 0),(4,i64 (k:Int)),(5,ptr b5 0),(6,ptr b6 0),(7,i64 (N:Int)),(8,i64 (y.1:Int))]) (fun y=>_) (fun y=>(b6,yV 92 [str (aK q.x0),str (bD.getD (q.x1 % 8).toNat []),str [],gV (QZ q y.1).length y.2])::(b5,yV 210 (VO q))::(b2,yV 45 [u8 97,u8 109,gV fs.length g])::(b1,yV 45 [u8 0,u8 0,.slice none 0 0])::(gH 89 ((QZ q y.1).flatMap XL) y.2++gH 92 (fs.flatMap IQ) g)) (0,none) ⟨sQ _,rfl,rfl⟩ rT rfl rfl ?_;rintro⟨j,g2⟩ ⟨hj,a5⟩;dsimp only at hj a5 ⊢;have b4:=b1C q j;refine yZ ?_ ?_<;>intro au ag
    ·refine yU 4 ?_;refine bF [0,1,2,3] [] 24 kR ?_;have av:=a2;refine yU 4 ?_;refine aP 4 rfl (a5i rfl rfl rfl dE (IJ (by have h:=c2A hq.h2 3 dE;omega))) ?_;refine yU 7 ?_;refine aP 18 rfl (b7D rfl rfl rfl) ?_;refine zO (a1a q.x1 3 dE dE _) ?_;refine yU 2 ?_;refine aP 10 rfl (a0o rfl rfl rfl (IJ (by have h:=b1x (j:=j) (m:=q.x1 % 3) oM oM oM;omega))) ?_;refine aP 11 rfl (FM rfl rfl rfl (IJ (by have h:=c2A hq.h2 3 dE;have h2:=b1x (j:=j) (m:=q.x1 % 3) oM oM oM;omega))) ?_;refine zO (a1a (q.x2.tdiv 3+(j:Int)*(1+q.x1 % 3)) 8 dE dE _) ?_;refine yU 1 ?_;refine aP 13 rfl (FB rfl rfl rfl AV oM (c4i (l:=Ix.b3w) oM (by simp[Ix.b3w];omega))) ?_;refine zO (a3R _ _) ?_;refine⟨⟨(bG _),(bQ 0 rfl (bQ 1 rfl (bQ 2 rfl (bQ 3 rfl dS)))),dU⟩,?_⟩;refine eP CP (fun ah=>?_);refine aX 20 rfl ah (zL (pl:= #[(0,1),(1,1)]) rfl rfl a7K rfl a3B (fun w=>by simp[tS5,BD]) (aO rfl rfl rfl (aF aN) (aO rfl rfl rfl (bW (aF aN)) bY))) ?_;refine qq2 21 rfl (CY a5N a1G a7K (DC.agg rfl DC.none) ?_);intro _ _;refine⟨⟨(bG _),(bQ 1 rfl (bQ 2 rfl (bQ 3 rfl (bQ 4 rfl dS)))),dU⟩,?_⟩;refine JA.perm (H':=[_,_,_,_,_]++(gH _ _ _++gH _ _ _)) (IZ [_,_,_,_,_] _ _) ?_;refine qq2 22 rfl (zT (by':=23) ([_,_,_,_,_]++gH _ _ _) rfl rfl rfl rfl rfl a5N (.inr ⟨_,a5N⟩) kR a1G a7K rfl a5 rfl (dH (yX.at 0 rfl) rfl rfl rfl) oM ?_);intro aw ai;refine yU 2 ?_;refine JA.last 24 kR rfl rfl rfl (DV 1 rfl rfl rfl rfl (a1B _ _) (a9i _ _) sizeOf90 rfl rfl (bW (bW (bW (aF aN)))) (BL.s dI) ?_);refine yU 8 ?_;refine aU (IZ [_,_,_,_,_] (gH _ _ _) (gH _ _ _)) ?_;refine bM (aJ (aV (aV (aV (aV aS))))) ?_;refine aG (j+1,aw) ⟨dO,by dsimp only;rw[a3m,wV,xP];exact ai⟩ dO rT rfl (by dsimp only;rw[a3m,wV,xP];rfl)
    refine yU 5 ?_;have ax:j=N:=oM;subst ax;refine Cj.perm (b9B [_,_,_,_] (gH _ _ _) (gH _ _ _)) ?_;refine Cj.a9v JH dE a5 rfl (fun _ Z ay=>?_);have A:=A.mono Z;have O:=O.mono Z;have a2:=Z _ _ a2;refine yU 5 ?_;intro _ _;refine cO rfl (zT (by':=71) [_,_,_,_,_] rfl rfl rfl rfl rfl a7Q (.inr ⟨_,a7Q⟩) kR KX a2x rfl hg rfl (dH (yX.at 0 rfl) rfl rfl (by show[str (aK q.x0),str (bD.getD (q.x1 % 8).toNat []),str [],gV _ _].all bV=true;simp only[yH,dJ,a2S,yO];rfl)) oM ?_);intro az aj;refine yU 10 ?_;refine bM (aJ (aJ (aJ (aV (aV aS))))) ?_;refine aG (k+1,_,fs++[⟨aK q.x0,bD.getD (q.x1 % 8).toNat [],[],gV (QZ q j).length g2,QZ q j⟩],az) ⟨dO,dO,A,VP.add O ay,by dsimp only;rw[b8D,YU _ G,hN,c7n Q,←ar];rfl,by dsimp only;rw[wV,a3];rfl,by dsimp only;rw[ZN,wV];exact aj⟩ dO rT rfl (by dsimp only;rw[ZN,wV];rfl)
   refine DZ ?_ ?_<;>intro a6 a8
   ·refine yU 2 ?_;refine J.zg (AO (p:=0) (q:=2) rfl rfl AV rfl ⟨_,rfl⟩ oM oM) ?_;refine yZ ?_ ?_<;>intro a0 a9
    ·have Q:dA (aK q.x0):=⟨oM,by have h:=BP a0;rw[xU]at h;exact h⟩;refine zO (a3R q.x3 _) ?_;refine yU 10 ?_;intro _ _;refine KT 71 [_,_,_,_,_] hg ?_;intro b0 al;refine yU 13 ?_;refine bM (aJ (aJ (aJ (aV (aV aS))))) ?_;refine aG (k+1,_,fs++[⟨aK q.x0,[],eU q.x3,.slice none 0 0,[]⟩],b0) ⟨dO,dO,A,VP.add O KZ.nil,by dsimp only;rw[b8D,YU _ G,hN,c7u Q];rfl,by dsimp only;rw[wV,a3];rfl,by dsimp only;rw[ZN,wV];exact al⟩ dO rT rfl (by dsimp only;rw[ZN,wV];rfl)
    have Q:¬dA (aK q.x0):=fun g=>CB a0 (by rw[xU];exact g.2);refine yU 1 ?_;exact a4 () _ _ _ Q rT rfl rfl
   have Q:¬dA (aK q.x0):=fun g=>by have h:=DN a6;have:=g.1;omega
   refine yU 9 ?_;exact a4 () _ _ _ Q rT rfl rfl
  refine yU 8 ?_;refine cO rfl (DV 1 rfl rfl rfl rfl rfl (by show[u8 97,u8 109,gV _ _].all bV=true;simp only[yH,dJ,a2S,yO];rfl) PI rfl rfl (aF (aF (aF aN))) (BL.s dI) ?_);refine yU 3 ?_;have M:bH fs=bJ l:=by rw[hN];unfold bJ;rw[a4M hk oM]
  refine aU (H':=gH _ _ _++[_,_]) uQ ?_;refine dP LK dE hg rfl (fun I9 a1 a7=>?_);refine Ej.b3L (aJ (aJ eX)) rfl rfl rfl (yX.at 1 rfl) isAgg45 PI rfl ?_;exact⟨fs,_,rfl,YK.imp ⟨a7,fun f hf=>((O f hf).mono a1)⟩ (fun b hb=>ab.dom hb),M,rfl⟩
 refine yU 14 ?_;refine cO rfl (DV 1 rfl rfl rfl rfl rfl (by show[u8 97,u8 109,gV _ _].all bV=true;simp only[yH,dJ,a2S,yO];rfl) PI rfl rfl (aF (aF (aF aN))) (BL.s dI) ?_);refine yU 3 ?_;have M:bH fs=bJ l:=by rw[hN];unfold bJ;rw[a4M hk oM]
 refine aU (H':=gH _ _ _++[_,_]) uQ ?_;refine dP LK dE hg rfl (fun I9 a1 a7=>?_);refine Ej.b3L (aJ (aJ eX)) rfl rfl rfl (yX.at 1 rfl) isAgg45 PI rfl ?_;exact⟨fs,_,rfl,YK.imp ⟨a7,fun f hf=>((O f hf).mono a1)⟩ (fun b hb=>ab.dom hb),M,rfl⟩
end Go.Proofs.YtalapkjmkjmpjaaGreatDoor
end
section
namespace Go.Proofs.YtalapkjmkjmpjaaGreatDoor
open _root_.Go.Proofs.Tryz
open Go Go.Sx
structure Act where
  a:Ix.SX
  v:Value
def b4d (x:Act):List Value:=[.bool x.a.drop,i64 x.a.src,i64 x.a.num,x.v]
theorem c4y x:(b4d x).length=4:=rfl
def VK (I:Heap) (xs:List Act) (v:Value):Prop:=zJ b4d I xs v∧∀x∈xs,zJ VO I x.a.fs x.v
theorem VK.mono{I G xs v}(h:VK I xs v)(A:Le I G):VK G xs v:=⟨h.1.mono A,fun x M=>(h.2 x M).mono A⟩
def a0u (xs:List Act):Prop:=∀x∈xs,∀q∈x.a.fs,a0l q
abbrev acts (xs:List Act):List Ix.SX:=xs.map (·.a)
theorem c4E{α:Type}(l:List α):l.take (min l.length 8)=l.take 8:=by
 rcases Nat.le_total l.length 8 with h|h
 ·rw[sW h,tX h,tX (tH _)]
 rw[Nat.min_eq_right h]
structure a0O (I:Heap) (a:Ix.SX) (e:DT):Prop where
  t:e.t=a.title
  r:KC I e.fs e.v
  n:Ke.nrm e.fs=a.record
structure a5B (N:Nat→Prop) (I:Heap) (a:Ix.SX) (e:DT):Prop where
  t:e.t=a.title
  r:YK N I e.fs e.v
  n:Ke.nrm e.fs=a.record
theorem a5B.ent{N:Nat→Prop}{I a e}(h:a5B N I a e):a0O I a e:=⟨h.t,h.r.rec,h.n⟩
theorem a0O.vals{I a e}(h:a0O I a e):Ix.vals e.fs=a.vs:=by rw[←c6s,h.n];rfl
theorem a0O.l{I a e}(h:a0O I a e):zQ e=(a.title,a.vs):=Prod.ext h.t h.vals
theorem a0O.eok{I a e}(h:a0O I a e):RI e.fs:=c7k h.n
theorem a0O.one{I a e}(h:a0O I a e):(JG e).all bV=true:=by
 obtain⟨p,c,A⟩:=zJ.len h.r.1;exact a2X A
theorem c0Z x (a0:∀q∈x.a.fs,a0l q) I (N:zJ VO I x.a.fs x.v):yY aH 33 [.agg (b4d x).toArray] I [] (fun ev I' H'=>∃e,ev= .returned (.agg (JG e).toArray)∧a5B (I · =none) I' x.a e∧H'=[]):=by
 obtain⟨p,c,G⟩:=zJ.len N;have a3:x.a.fs.length≤c:=by obtain⟨p1,c1,h1,h2,_⟩:=N;rw[G]at h1;cases h1;exact h2
 have Q:zJ VO I (x.a.fs.take 8) (.slice p (min x.a.fs.length 8) c):=by rw[←c4E];rw[G]at N;exact N.take (sV _ _)
 refine zN func33 fun w0 _=>?_;refine yU 3 ?_;intro _ _;refine yU 1 ?_;intro _ _;refine yU 3 ?_;refine bF [0,1] [] 14 kR ?_;refine eP CP (fun A=>?_);refine aX 0 rfl A (zY (off':=1) b3n AZ) ?_;refine aX 1 rfl A (BX GZ (dX 1 rfl)) ?_;refine aX 2 rfl A (zY (off':=2) b3n AZ) ?_;refine aX 3 rfl A (BX GZ (dX 1 rfl)) ?_;refine aX 4 rfl A (zL (pl:= #[(0,1),(1,1)]) rfl rfl VT rfl a0y (fun w=>by simp[AZ]) (aO rfl rfl rfl (aF aN) (aO rfl rfl rfl (bW (aF aN)) bY))) ?_;refine aX 5 rfl A (zY (off':=3) b3n sizeOf99) ?_;refine aX 6 rfl A (BX isAgg99 (dX 1 rfl)) ?_;refine JA.eqv 9 rfl (show _= .slice p x.a.fs.length c from G) ?_;refine aX 7 rfl A (zY (off':=3) b3n sizeOf99) ?_;refine aX 8 rfl A (BX isAgg99 (dX 1 rfl)) ?_;refine JA.eqv 11 rfl (show _= .slice p x.a.fs.length c from G) ?_;refine aX 9 rfl A (QT rfl rfl underlying99) ?_;refine aX 10 rfl A (LJ rfl rfl rfl) ?_;refine aX 11 rfl A (IG (k:=(min x.a.fs.length 8)) rfl rfl rfl underlying99 sizeOf210 (by split<;>omega) oM) ?_;refine qq2 12 rfl (zU (H1:=[]) rfl rfl rfl rfl rfl (c2o (x.a.fs.take 8) _ (fun q hq=>a0 q (vO hq)) _ Q) ?_ (fun _ _ _ _ ⟨_,_,h,_⟩=>by cases h) (fun _ _ ⟨_,_,h,_⟩=>by cases h));intro _ _ _ Z a1;obtain⟨fs,w,h,M,O,rfl⟩:=a1;cases h;obtain⟨wp,_,rfl⟩:=zJ.len M.1.row;refine⟨⟨(eH (bG _) Z),(bQ 0 rfl (bQ 1 rfl dS)),dU⟩,?_⟩;refine eP CP (fun a2=>?_);refine aX 13 rfl a2 (zL (pl:= #[(0,2),(2,3)]) rfl rfl a2y rfl a4X (fun w=>by simp[BM,PI]) (aO rfl rfl rfl (aF (aF aN)) (aO rfl rfl rfl (bW (bW (aF (aF (aF aN))))) bY))) ?_;refine JA.last 14 kR rfl rfl rfl (CG 0 NR (aF (aF (aF (aF (aF aN))))) dI ?_);refine yU 3 ?_;refine Ej.b3L (aJ (aJ eX)) rfl rfl rfl (yX.at 0 rfl) isAgg47 NR rfl ?_;exact⟨⟨x.a.title,97,109,_,fs⟩,rfl,⟨rfl,M,O⟩,rfl⟩
theorem le_none{I J}(h:Le I J){b}(A:J b=none):I b=none:=by
 cases hI:I b with
 |none=>rfl
 |some o=>rw[h _ _ hI]at A;cases A
def c0G (N:Nat→Prop) (I:Heap) (es:List DT) (v:Value):Prop:=KZ N 47 JG I es v∧∀e∈es,YK N I e.fs e.v
theorem c0G.ents{N:Nat→Prop}{I es v}(h:c0G N I es v):EU I es v:=⟨h.1.row,fun e A=>(h.2 e A).rec⟩
def VI (N:Nat→Prop) (I:Heap) (al:List Ix.SX) (es:List DT):Prop:=es.map zQ=al.map (fun a=>(a.title,a.vs))∧(∀e∈es,YK N I e.fs e.v)∧∀e∈es,RI e.fs
theorem VI.mono{N:Nat→Prop}{I A G es}(h:VI N I G es)(M:Le I A):VI N A G es:=⟨h.1,fun e O=>(h.2.1 e O).mono M,h.2.2⟩
theorem VI.add{N:Nat→Prop}{I M es a e}(h:VI N I M es)(A:a5B N I a e):VI N I (M++[a]) (es++[e]):=by
 refine⟨by rw[wG,wG,h.1];exact zC _ (zC (fun z=>[z]) A.ent.l),fun x G=>?_,fun x G=>?_⟩
 ·rcases wB.1 G with g|g
  ·exact h.2.1 x g
  rw[vN.1 g];exact A.r
 rcases wB.1 G with g|g
 ·exact h.2.2 x g
 rw[vN.1 g];exact A.ent.eok
theorem VI.nil{N:Nat→Prop}{I}:VI N I [] []:=⟨rfl,(fun _ h=>by cases h),(fun _ h=>by cases h)⟩
theorem VI.len{N:Nat→Prop}{I A es}(h:VI N I A es):es.length=A.length:=by have:=zC List.length h.1;simpa using this
theorem c1E xs k:acts (xs.take k)=(acts xs).take k:=List.map_take
theorem b2d{xs k}(A:k≤xs.length)(h:k≤20∧(xs.length≤k∨20≤k)):(acts (xs.take k)).map (fun a=>(a.title,a.vs))=Ix.ents (acts xs):=by
 rw[a4M A h,c1E];rfl
theorem b6r xs v (ad:a0u xs) I (a3:VK I xs v):yY aH 15 [v] I [] (fun ev I' H'=>∃es w,ev= .returned w∧c0G (I · =none) I' es w∧es.map zQ=Ix.ents (acts xs)∧(∀e∈es,RI e.fs)∧es.length≤20∧H'=[]):=by
 obtain⟨p,c,rfl⟩:=zJ.len a3.1;refine zN func15 fun w0 a4=>?_;refine yU 17 ?_;refine aQ (ι:=Nat×Heap×List DT×Gs) (fun y=>y.1≤xs.length∧y.1≤20∧Le I y.2.1∧VI (I · =none) y.2.1 (acts (xs.take y.1)) y.2.2.1∧AL w0.heap.size 5 y.2.2.1.length (y.2.2.1.flatMap JG) y.2.2.2) (fun y=>20-y.1) (fun y=>[(0,.slice p xs.length c),(3,gV y.2.2.1.length y.2.2.2),(4,i64 (y.1:Int))]) (fun y=>y.2.1) (fun y=>gH 47 (y.2.2.1.flatMap JG) y.2.2.2) (0,_,[],none) ⟨sQ _,sQ _,bG _,VI.nil,rfl,rfl⟩ rT rfl rfl ?_;rintro⟨k,_,es,g⟩ ⟨hk,a9,G,A,hg⟩;dsimp only at hk a9 G A hg ⊢;have hA:=a3.mono G;have ae:=A.len;rw[wO,wI,sW hk]at ae;refine DZ ?_ ?_<;>intro af aa
 ·refine yZ ?_ ?_<;>intro ag ab
  ·refine yU 4 ?_;have ac:=G;have a5:k<xs.length:=oM;have hlt2:k<20:=oM;obtain⟨x,M⟩:∃x,xs[k]?=some x:=⟨_,AA a5⟩;have a6:=CJ M;obtain⟨p1,c1,ah,_,hp⟩:=id hA.1;cases ah;obtain⟨_,ao,_,_,_,_,rfl,Q,ai⟩:=hp (zK a5);have a7:=hA.2 x a6;obtain⟨_,_,_⟩:=zJ.len a7;have aj:acts (xs.take (k+1))=acts (xs.take k)++[x.a]:=YU _ M;refine zW (ao+k*4) ?_;refine aZ (CX isAgg101 sizeOf101 (aY Q) (AY c4y ai M)) ?_;refine zX (c0Z x (ad x a6) _ a7) ?_;intro _ _ _ N al;have A:=A.mono N;have G:=G.mono N;have Q:=N _ _ Q;obtain⟨e0,h,Z,rfl⟩:=al;cases h;have a8:a5B (I · =none) _ x.a e0:=⟨Z.t,Z.r.imp (fun b hb=>le_none ac hb),Z.n⟩;have am:=a8.ent;refine yU 1 ?_;intro _ _;refine cO rfl (zT (by':=47) [_] rfl rfl rfl rfl rfl SY (.inr ⟨_,SY⟩) kR NR a2y rfl hg rfl (dH (yX.at 0 rfl) rfl rfl am.one) oM ?_);intro g9 an;refine yU 9 ?_;refine bM (aJ aS) ?_;refine aG (k+1,_,es++[e0],g9) ⟨dO,dO,G,by dsimp only;rw[aj];exact A.add a8,by dsimp only;rw[ZN,wV];exact an⟩ dO ⟨rfl,by dsimp only;rw[wV];rfl,rfl,trivial⟩ rfl (by dsimp only;rw[ZN];rfl)
  refine yU 12 ?_;have a0:=b2d hk oM;have a1:=A.1.trans a0;refine aU (H':=gH 47 (es.flatMap JG) g++[]) (.of_eq (yD _)) ?_;refine dP JQ dE hg rfl (fun I8 O a2=>?_);refine zM ?_;exact⟨es,_,rfl,⟨a2.imp (fun b hb=>a4.dom hb),fun e he=>(A.2.1 e he).mono O⟩,a1,A.2.2,oM,rfl⟩
 refine yU 18 ?_;have a0:=b2d hk oM;have a1:=A.1.trans a0;refine aU (H':=gH 47 (es.flatMap JG) g++[]) (.of_eq (yD _)) ?_;refine dP JQ dE hg rfl (fun I8 O a2=>?_);refine zM ?_;exact⟨es,_,rfl,⟨a2.imp (fun b hb=>a4.dom hb),fun e he=>(A.2.1 e he).mono O⟩,a1,A.2.2,oM,rfl⟩
theorem c0t xs v (A:a0u xs) I (G:VK I xs v):yY aH 15 [v] I [] (fun ev M H'=>∃es w,ev= .returned w∧EU M es w∧es.map zQ=Ix.ents (acts xs)∧(∀e∈es,RI e.fs)∧es.length≤20∧H'=[]):=
 (b6r xs v A I G).mono fun _ _ _ _ ⟨es,w,h1,h2,h⟩=>⟨es,w,h1,h2.ents,h⟩
end Go.Proofs.YtalapkjmkjmpjaaGreatDoor
end
namespace Go.Sx
open Go
section
variable {cx:Cx} {o:Oper} {e:Env} {S:World→Prop}
