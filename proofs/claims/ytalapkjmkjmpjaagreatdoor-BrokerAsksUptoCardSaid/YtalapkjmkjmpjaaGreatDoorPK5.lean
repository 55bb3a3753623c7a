/-
  Own texts on the laws of the seat, joined: the logic, and contracts of functions. Conditions: none.
-/
import Derived.Test.YtalapkjmkjmpjaaGreatDoorNmK
import Derived.Test.YtalapkjmkjmpjaaGreatDoorPK4
import Derived.Lib.Bytealg
import Derived.Lib.Join
import Derived.Lib.SlTrimSet
import Derived.Shelf.Strings.SlTrimAscii
set_option linter.all false
set_option maxRecDepth 100000
set_option maxHeartbeats 40000000
open Go.Proofs.Tryz renaming prog -> aA,zeroCells423 -> dS,func177 -> eH
open Go.Utf8 renaming decode -> aB,encode -> dG
open Go.Ending renaming returned -> aC
open Bool renaming noConfusion -> aF
open Go.Value renaming int -> aG,bool -> bW
open Ke renaming char -> aH,a8j -> aO,strip -> aP,words -> aY,cut -> bD,KF -> bI,rows -> bZ,tab -> cZ,okc -> dA,KW -> dF,OZ -> dY,digits -> eF
open Go.Sx.J renaming z -> aI,op -> aJ,perm -> bC,ez -> bJ,pull -> bQ,persist -> dD
open Go.Sx.Pull renaming s -> aK,z -> aQ
open Go.Sx.BL renaming s -> aN,z -> bG
open Go.Sx.Keeps renaming d -> aS,k -> aU,r -> dK,n -> dR
open Go.Sx.Ej renaming keep -> aT,round -> aW,pull -> dI,rounds -> dM,a3z -> dV,persist -> dX
open Go.Sx.Enters renaming of -> aV
open UInt8 renaming ofNat -> aX
open List.Sublist renaming cons -> aZ,refl -> dU
open Eq renaming trans -> bF,symm -> bP
open Go.Sx.yX renaming YR -> bH
open Go.Sx.JA renaming zt -> bK,ez -> bY
open Go.Sx.Cj renaming cond -> bM,EX -> bV,loop -> dH
open Go.Lib renaming indexByte -> bT,trimS -> dQ,joinTail -> dZ,join -> eP
open Go.Sx.Src renaming slice -> bU
open List renaming lookup_cons -> cO,mem_reverse -> dB,dropWhile_cons -> dL,countP_cons -> dW
open Go.Sx.Rj renaming succ -> dJ
open Go.Sx renaming str -> dN
open Go.Sx.Pure renaming of_same -> dP,of_below -> eG
namespace Rp
abbrev Tb:=UInt8→Option (List UInt8)
def one (r:Tb) (c:UInt8):List UInt8:=(r c).getD [c]
def rep (r:Tb) (s:List UInt8):List UInt8:=s.flatMap (one r)
def two (a:UInt8) (x:List UInt8) (b:UInt8) (y:List UInt8):Tb:=fun c=>if c=a then some x else if c=b then some y else none
def w (r:Tb) (c:UInt8):Int:=(one r c).length-1
def gain (r:Tb) (s:List UInt8):Int:=(s.map (w r)).sum
def hits (r:Tb) (s:List UInt8):Nat:=s.countP fun c=>(r c).isSome
theorem a7s r s:((rep r s).length:Int)=s.length+gain r s:=by
 induction s with
 |nil=>rfl
 |cons c s A=>
  have h1:(rep r (c::s)).length=(one r c).length+(rep r s).length:=by simp[rep]
  have h2:gain r (c::s)=w r c+gain r s:=by simp[gain]
  rw[h1,h2,wU];unfold w;omega
theorem b3U{r}:∀{s:List UInt8},hits r s=0→rep r s=s
 |[],_=>rfl
 |c::s,h=>by
  unfold hits at h;rw[dW]at h;have A:r c=none:=by
   cases hr:r c with
   |none=>rfl
   |some x=>rw[hr]at h;simp at h
  have:=b3U (r:=r) (s:=s) (by unfold hits;omega);show one r c++rep r s=c::s;rw[this];unfold one;rw[A];rfl
theorem PV{s:List UInt8}{k c}(h:s[k]?=some c):s.take (k+1)=s.take k++[c]:=by
 rw[uF,h];rfl
theorem c4x r {s:List UInt8}{k c}(h:s[k]?=some c):rep r (s.take (k+1))=rep r (s.take k)++one r c:=by
 rw[PV h];simp[rep]
theorem c2e r {s:List UInt8}{k c}(h:s[k]?=some c):gain r (s.take (k+1))=gain r (s.take k)+w r c:=by
 rw[PV h];simp[gain]
theorem c4a r {s:List UInt8}{k c}(h:s[k]?=some c):hits r (s.take (k+1))=hits r (s.take k)+if (r c).isSome then 1 else 0:=by
 rw[PV h];simp[hits,List.countP_append,dW]
theorem b5g r s k:(rep r (s.take k)).length≤(rep r s).length:=by
 have h:rep r s=rep r (s.take k)++rep r (s.drop k):=by
  unfold rep;rw[←xP,uD]
 rw[h,wV];omega
def Two (r:Tb):Prop:=∀c x,r c=some x→x.length≤2
theorem b9g{r}(h:Two r) c: -1≤w r c∧w r c≤1:=by
 unfold w one;cases hr:r c with
 |none=>simp
 |some x=>have:=h c x hr;simp;omega
theorem a8c{r}(h:Two r):∀s:List UInt8,-(s.length:Int)≤gain r s∧gain r s≤s.length
 |[]=>by simp[gain]
 |c::s=>by
  have h1:=a8c h s;have h2:=b9g h c;simp only[gain,wF,uI,wU]at h1 ⊢;omega
def cg (r:Tb) (s:List UInt8) (ks:List UInt8):Int:=(ks.map fun k=>(s.count k:Int)*w r k).sum
def cn (s:List UInt8) (ks:List UInt8):Nat:=(ks.map fun k=>s.count k).sum
theorem c9w r s {ks:List UInt8}{i k}(h:ks[i]?=some k):cg r s (ks.take (i+1))=cg r s (ks.take i)+s.count k*w r k:=by
 rw[PV h];simp[cg]
theorem c7R s {ks:List UInt8}{i k}(h:ks[i]?=some k):cn s (ks.take (i+1))=cn s (ks.take i)+s.count k:=by
 rw[PV h];simp[cn]
theorem b7F r c s:∀(ks:List UInt8),ks.Nodup→cg r (c::s) ks=cg r s ks+if c∈ks then w r c else 0
 |[],_=>by simp[cg]
 |k::ks,h=>by
  obtain⟨h1,h2⟩:=vJ.1 h;have A:=b7F r c s ks h2;simp only[cg,wF,uI,List.count_cons]at A ⊢
  by_cases hk:c=k
  ·subst hk;rw[zD h1]at A;simp only[beq_self_eq_true,if_true,vX,true_or];rw[A]
   push_cast
   rw[Int.add_mul];omega
  have G:(c == k)=false:=by simpa using hk
  simp only[G,vX,hk,false_or];rw[A];simp;omega
theorem c2P{r ks}(A:ks.Nodup)(G:∀c,c∈ks↔(r c).isSome=true):∀s:List UInt8,cg r s ks=gain r s
 |[]=>by
  have h:∀l:List UInt8,(l.map fun k=>(([]:List UInt8).count k:Int)*w r k).sum=0:=fun l=>by
   induction l with
   |nil=>rfl
   |cons k l M=>rw[wF,uI,M];simp
  exact h ks
 |c::s=>by
  rw[b7F r c s ks A,c2P A G s];simp only[gain,wF,uI]
  by_cases h:c∈ks
  ·rw[zF h];omega
  rw[zD h];have:r c=none:=by
   cases hr:r c with
   |none=>rfl
   |some x=>exact absurd ((G c).2 (by rw[hr];rfl)) h
  have N:w r c=0:=by unfold w one;rw[this];rfl
  omega
theorem c1O{r}(h:Two r){s}(A:s.length≤1000000000):∀ks:List UInt8,-(ks.length*1000000000:Int)≤cg r s ks∧cg r s ks≤ks.length*1000000000
 |[]=>by simp[cg]
 |k::ks=>by
  have h1:=c1O h A ks;have h2:=b9g h k;have h3:s.count k≤s.length:=xZ;have G:cg r s (k::ks)=s.count k*w r k+cg r s ks:=by simp[cg]
  have M:w r k= -1∨w r k=0∨w r k=1:=oM;rw[G,wU];rcases M with e|e|e<;>rw[e]<;>omega
theorem mul_two{r}(h:Two r){s:List UInt8}(G:s.length≤1000000000) k: -1000000000≤s.count k*w r k∧s.count k*w r k≤1000000000:=by
 have h2:=b9g h k;have h3:s.count k≤s.length:=xZ;have A:w r k= -1∨w r k=0∨w r k=1:=oM;rcases A with e|e|e<;>rw[e]<;>omega
theorem c9r{r ks}(G:∀c,c∈ks↔(r c).isSome=true){s}(h:cn s ks=0):hits r s=0:=by
 have h0:∀k∈ks,s.count k=0:=by
  intro k A;unfold cn at h;exact List.sum_eq_zero_iff_forall_eq_nat.1 h _ (vT A)
 unfold hits;rw[List.countP_eq_zero];intro c M N;have:=h0 c ((G c).2 N);rw[List.count_eq_zero]at this;exact this M
end Rp
section
namespace Go.Proofs.YtalapkjmkjmpjaaGreatDoor
open _root_.Go.Proofs.Tryz
open Go Go.Sx
def VOf (I:Heap) (o:Option (List UInt8)) (v:Value):Prop:=(o=none∧v= .slice none 0 0)∨∃x,o=some x∧a6C I x v
theorem VOf.mono{I A o v}(h:VOf I o v)(G:Le I A):VOf A o v:=h.imp id fun⟨x,h1,h2⟩=>⟨x,h1,h2.mono G⟩
def BSG (r:Rp.Tb) (I:Heap) (xb:Nat):Prop:=∃(V:Nat→Value) (tr:Value) (ks:List UInt8),I xb=some (yV 423 (tab V tr))∧IK 9 I (ks.map fun k=>[k]) tr∧ks.Nodup∧(∀c,c∈ks↔(r c).isSome=true)∧ks.length≤256∧Rp.Two r∧∀c:UInt8,VOf I (r c) (V c.toNat)
theorem BSG.mono{r I G M}(h:BSG r I M)(A:Le I G):BSG r G M:=let ⟨V,tr,ks,h1,h2,h3,N,O,Q,Z⟩:=h;⟨V,tr,ks,A _ _ h1,h2.mono A,h3,N,O,Q,fun c=>(Z c).mono A⟩
theorem c7c r xb s (hs:s.length≤1000000000) I (hb:BSG r I xb):Pure aA 441 [ptr xb 0,str s] I (str (Rp.rep r s)):=by
 refine yY.toPure ?_;obtain⟨V,tr,ks,N,⟨tb,tc,_,rfl,al⟩,am,a4,an,Q,hV⟩:=hb;rw[wO]at N;have ax:=Rp.a8c Q s;have ay:=Rp.a7s r s;refine zN func441 fun w0 _=>?_;refine yU 17 ?_;refine Cj.join (ι:=Bool) (fun y=>y=false→Rp.rep r s=s) (fun y=>[(0,ptr xb 0),(1,str s),(5,i64 ((Rp.rep r s).length:Int)),(6,.bool y)]) (fun y=>I) (fun y=>[]) ?_ (fun a5=>?_)
 ·intro y hy;refine DF ?_ ?_<;>intro a8
  ·refine zV ?_;rw[hy (by have h:=a8;simpa using h)];exact rT
  refine yU 5 ?_;refine aJ rfl (a5p (n:=(Rp.rep r s).length) (c:=(Rp.rep r s).length) (by1:=1) (z:=(.int .u8 0)) rfl rfl rfl rfl rfl KE kR rfl oM oM oM ?_);intro b2 _;refine yU 15 ?_;refine dH (ι:=Nat) (fun j=>j≤s.length) (fun j=>s.length-j) (fun j=>[(0,ptr xb 0),(1,str s),(12,.slice (some ⟨b2,0,none⟩) (Rp.rep r s).length (Rp.rep r s).length),(13,i64 ((Rp.rep r (s.take j)).length:Int)),(14,i64 (j:Int))]) (fun j=>I) (fun j=>[(b2,yV 5 (buf (Rp.rep r (s.take j)) (Rp.rep r s).length))]) 0 (sQ _) rT rfl (by rw[List.take_zero];exact zC (fun l=>[(_,yV 5 l)]) (c9q _)) ?_;intro j hj;have ao:=Rp.b5g r s j;refine yZ ?_ ?_<;>intro ap ag
  ·have a1:j<s.length:=oM;obtain⟨c,O⟩:∃c,s[j]?=some c:=⟨_,AA a1⟩;have a9:=Rp.c4x r O;have aw:=Rp.b5g r s (j+1);refine yU 8 ?_;refine aI (IC AV O) ?_;refine yU 5 ?_;rcases hV c with⟨G,M⟩|⟨x,G,l,cc,sp,fr,M,hl⟩
   ·have A:Rp.one r c=[c]:=by unfold Rp.one;rw[G];rfl
    have hw:Rp.w r c=0:=by unfold Rp.w;rw[A];rfl
    have Z:Rp.rep r (s.take (j+1))=Rp.rep r (s.take j)++[c]:=a9.trans (by rw[A]);have a2:(Rp.rep r (s.take (j+1))).length=(Rp.rep r (s.take j)).length+1:=by rw[Z,wV];rfl
    refine yU 4 ?_;refine aI (JO (off':=c.toNat) rfl rfl rfl a3G a0M oM (by have:=c.toNat_lt;omega) sI) ?_;refine aI (DI isAgg268 (bH N) (SV _ _ c.toNat_lt)) ?_;refine bJ 100 (.slice none 0 0) rfl M ?_;refine zW ((Rp.rep r (s.take j)).length) ?_;refine aJ rfl (MG 0 rfl rfl rfl rfl rfl rfl tS5 rfl (.inl rfl) (by rw[b7s ao];omega) (by rw[c8u _ oM];exact bG) ?_);refine yU 14 ?_;refine aW (j+1) oM oM ⟨rfl,rfl,rfl,by rw[a2];rfl,rfl,trivial⟩ rfl (zC (fun l=>[(_,yV _ (buf l _))]) Z)
   have aa:=Q c x G;have A:Rp.one r c=x:=by unfold Rp.one;rw[G];rfl
   have hw:Rp.w r c=(x.length:Int)-1:=by unfold Rp.w;rw[A]
   have Z:Rp.rep r (s.take (j+1))=Rp.rep r (s.take j)++x:=a9.trans (by rw[A]);have a2:(Rp.rep r (s.take (j+1))).length=(Rp.rep r (s.take j)).length+x.length:=by rw[Z,wV]
   refine yU 4 ?_;refine aI (JO (off':=c.toNat) rfl rfl rfl a3G a0M oM (by have:=c.toNat_lt;omega) sI) ?_;refine aI (DI isAgg268 (bH N) (SV _ _ c.toNat_lt)) ?_;refine bJ 100 (.slice (some ⟨l,0,none⟩) x.length cc) rfl M ?_;refine yU 4 ?_;refine bV [] [] 13 kR ?_;refine yU 3 ?_;refine bK 3 rfl (a9F rfl rfl rfl KE tS5 oM oM) ?_;refine yU 4 ?_;refine bK 8 rfl (JO (off':=c.toNat) rfl rfl rfl a3G a0M oM (by have:=c.toNat_lt;omega) sI) ?_;refine bK 9 rfl (DI isAgg268 (yX.RU N) (SV _ _ c.toNat_lt)) ?_;refine bY 111 (.slice (some ⟨l,0,none⟩) x.length cc) rfl M ?_;refine qq2 10 rfl (c8r (m:=x.length) 0 rfl rfl rfl rfl rfl KE tS5 (bU (ys:=DJ x) (bH hl) (by rw[xU];exact c6U x sp) (by rw[NT,Nat.mul_one]) (c7G x)) oM rfl (d0X (E:=Rp.rep r (s.take j)) (x:=x) (n:=(Rp.rep r s).length) oM) bG ?_);refine yU 11 ?_;refine aW (j+1) oM oM ⟨rfl,rfl,rfl,by rw[a2];rfl,rfl,trivial⟩ rfl (zC (fun l=>[(_,yV _ (buf l _))]) Z)
  have a0:s.take j=s:=tX oM;refine yU 8 ?_;refine aI (OE (Rp.rep r s) rfl rfl rfl KE AV tU5 (yX.at 0 rfl) (by rw[a0,c5z rfl,yD];exact tX (by rw[xU,NT];exact tH _))) ?_;refine zV ?_;exact rT
 refine yU 5 ?_;refine aI (DI isAgg118 (bH N) (a9H _ _)) ?_;refine yZ ?_ ?_<;>intro aq ah
 ·refine yU 5 ?_;refine aI (DI isAgg118 (bH N) (a9H _ _)) ?_;refine yU 5 ?_;refine dH (ι:=Nat) (fun i=>i≤ks.length) (fun i=>ks.length-i) (fun i=>[(0,ptr xb 0),(1,str s),(5,i64 ((s.length:Int)+Rp.cg r s (ks.take i))),(6,.bool (decide (0<Rp.cn s (ks.take i)))),(30,.slice (some ⟨tb,0,none⟩) ks.length tc),(31,i64 (ks.length:Int)),(32,i64 (i:Int))]) (fun i=>I) (fun i=>[]) 0 (sQ _) ⟨rfl,rfl,(zC (fun z=>some (aG .i64 z)) (by simp[Rp.cg])),rfl,rfl,rfl,rfl,trivial⟩ rfl rfl ?_;intro i hi;have ar:=Rp.c1O Q hs (ks.take i);rw[wI,sW hi]at ar;refine yZ ?_ ?_<;>intro au ai
  ·have a1:i<ks.length:=oM;obtain⟨k,hk⟩:∃k,ks[i]?=some k:=⟨_,AA a1⟩;have ab:=Rp.c9w r s hk;have ac:=Rp.c7R s hk;have hm:=Rp.mul_two Q hs k;have an:=k.toNat_lt;have az:s.count k≤s.length:=xZ;obtain⟨x,ad,l,cc,sp,fr,M,hl⟩:=(hV k).resolve_left fun g=>by have:=(a4 k).1 (CJ hk);rw[g.1]at this;cases this
   have aa:=Q k x ad;have hw:Rp.w r k=(x.length:Int)-1:=by unfold Rp.w Rp.one;rw[ad];rfl
   refine zW i ?_;refine aI (BU rfl rfl DU (bH al) (EL (x:=[k]) (by rw[xB,hk];rfl))) ?_;refine zO (c6w s k _) ?_;refine yZ ?_ ?_<;>intro a3 a6
   ·have h0:s.count k≠0:=by have h:=a3;simpa using h
    refine yU 1 ?_;refine bV [] [] 14 kR ?_;refine yU 4 ?_;refine bK 4 rfl (FB rfl rfl rfl AV dE rfl) ?_;refine yU 2 ?_;refine bK 7 rfl (JO (off':=k.toNat) rfl rfl rfl a3G a0M oM (by have:=k.toNat_lt;omega) sI) ?_;refine bK 8 rfl (DI isAgg268 (yX.RU N) (SV _ _ k.toNat_lt)) ?_;refine bY 49 (.slice (some ⟨l,0,none⟩) x.length cc) rfl M ?_;refine yU 2 ?_;refine bY 51 (i64 (Rp.w r k)) rfl (zC i64 hw.symm) ?_;refine yU 14 ?_;refine aW (i+1) oM oM ⟨rfl,rfl,(zC (fun z=>some (aG .i64 z)) (by rw[ab];omega)),(zC (fun z=>some (bW z)) (by rw[ac];exact(zH oM).symm)),rfl,rfl,rfl,trivial⟩ rfl rfl
   have h0:s.count k=0:=by have h:=a3;simpa using h
   refine yU 7 ?_;refine aW (i+1) oM oM ⟨rfl,rfl,(zC (fun z=>some (aG .i64 z)) (by rw[ab,h0];omega)),(zC (fun z=>some (bW z)) (by rw[ac,h0];rfl)),rfl,rfl,rfl,trivial⟩ rfl rfl
  have a0:ks.take i=ks:=tX oM;refine yU 4 ?_;exact a5 (decide (0<Rp.cn s ks)) _ _ _ (fun h=>Rp.b3U (Rp.c9r a4 (by have:=DN h;omega))) ⟨rfl,rfl,(zC (fun z=>some (aG .i64 z)) (by rw[a0,Rp.a7s,Rp.c2P am a4])),(zC (fun l=>some (bW (decide (0<Rp.cn s l)))) a0),trivial⟩ rfl rfl
 refine yU 6 ?_;refine dH (ι:=Nat) (fun j=>j≤s.length) (fun j=>s.length-j) (fun j=>[(0,ptr xb 0),(1,str s),(5,i64 ((s.length:Int)+Rp.gain r (s.take j))),(6,.bool (decide (0<Rp.hits r (s.take j)))),(10,i64 (j:Int))]) (fun j=>I) (fun j=>[]) 0 (sQ _) ⟨rfl,rfl,(zC (fun z=>some (aG .i64 z)) (by simp[Rp.gain])),rfl,rfl,trivial⟩ rfl rfl ?_;intro j hj;have av:=Rp.a8c Q (s.take j);rw[wI,sW hj]at av;refine yZ ?_ ?_<;>intro aj a7
 ·have a1:j<s.length:=oM;obtain⟨c,O⟩:∃c,s[j]?=some c:=⟨_,AA a1⟩;have ae:=Rp.c2e r O;have af:=Rp.c4a r O;refine yU 8 ?_;refine aI (IC AV O) ?_;refine yU 5 ?_;rcases hV c with⟨G,M⟩|⟨x,G,l,cc,sp,fr,M,hl⟩
  ·have A:Rp.one r c=[c]:=by unfold Rp.one;rw[G];rfl
   have hw:Rp.w r c=0:=by unfold Rp.w;rw[A];rfl
   refine yU 4 ?_;refine aI (JO (off':=c.toNat) rfl rfl rfl a3G a0M oM (by have:=c.toNat_lt;omega) sI) ?_;refine aI (DI isAgg268 (bH N) (SV _ _ c.toNat_lt)) ?_;refine bJ 69 (.slice none 0 0) rfl M ?_;refine yU 12 ?_;refine aW (j+1) oM oM ⟨rfl,rfl,(zC (fun z=>some (aG .i64 z)) (by rw[ae,hw];omega)),(zC (fun z=>some (bW z)) (by rw[af,G];rfl)),rfl,trivial⟩ rfl rfl
  have aa:=Q c x G;have A:Rp.one r c=x:=by unfold Rp.one;rw[G];rfl
  have hw:Rp.w r c=(x.length:Int)-1:=by unfold Rp.w;rw[A]
  refine yU 4 ?_;refine aI (JO (off':=c.toNat) rfl rfl rfl a3G a0M oM (by have:=c.toNat_lt;omega) sI) ?_;refine aI (DI isAgg268 (bH N) (SV _ _ c.toNat_lt)) ?_;refine bJ 69 (.slice (some ⟨l,0,none⟩) x.length cc) rfl M ?_;refine yU 11 ?_;refine aI (JO (off':=c.toNat) rfl rfl rfl a3G a0M oM (by have:=c.toNat_lt;omega) sI) ?_;refine aI (DI isAgg268 (bH N) (SV _ _ c.toNat_lt)) ?_;refine bJ 77 (.slice (some ⟨l,0,none⟩) x.length cc) rfl M ?_;refine yU 16 ?_;refine aW (j+1) oM oM ⟨rfl,rfl,(zC (fun z=>some (aG .i64 z)) (by rw[ae,hw];omega)),(zC (fun z=>some (bW z)) (by rw[af,G];exact(zH (Nat.succ_pos _)).symm)),rfl,trivial⟩ rfl rfl
 have a0:s.take j=s:=tX oM;refine yU 4 ?_;exact a5 (decide (0<Rp.hits r s)) _ _ _ (fun h=>Rp.b3U (by have:=DN h;omega)) ⟨rfl,rfl,(zC (fun z=>some (aG .i64 z)) (by rw[a0,Rp.a7s])),(zC (fun l=>some (bW (decide (0<Rp.hits r l)))) a0),trivial⟩ rfl rfl
end Go.Proofs.YtalapkjmkjmpjaaGreatDoor
end
section
namespace Go.Proofs.YtalapkjmkjmpjaaGreatDoor
open _root_.Go.Proofs.Tryz
open Go Go.Sx
theorem _root_.Go.Sx.BL.tr{H H'}{i b T:Nat}{f tr v}(h:BL H i (b,yV T (tab f v)) H'):BL H i (b,.cells ((tab f tr).set 256 v).toArray T) H':=by rw[c1I];exact h
theorem _root_.Go.Sx.BL.tb{H H'}{i b T k:Nat}{f:Nat→Value}{tr v:Value}(A:k<256)(h:BL H i (b,yV T (tab (fun j=>if j=k then v else f j) tr)) H'):BL H i (b,.cells ((tab f tr).set k v).toArray T) H':=by rw[c7Y _ _ _ A];exact h
def a3j (olds:List (List UInt8)) (r:Rp.Tb):Prop:=∀(rb:Nat) (a0 a1 a2 a3 osl:Value) (I:Heap),IK 9 I olds osl→yY aA 317 [ptr rb 0] I [(rb,yV 340 [a0,a1,a2,a3,osl])]
 (fun e I' H'=>∃xb,e= .returned (.iface 424 (ptr xb 0))∧BSG r I' xb∧H'=[(rb,yV 340 [a0,a1,a2,a3,osl])])
theorem BSG.two{a b x y}(G:b≠a)(hx:x.length≤2)(hy:y.length≤2){I N O Q tr}(h:I N=some (yV 423 (tab (fun j=>if j=a.toNat then Q else if j=b.toNat then O else .slice none 0 0) tr)))(h1:a6C I y O)(h2:a6C I x Q)(h3:IK 9 I [[b],[a]] tr):BSG (Rp.two a x b y) I N:=by
 refine⟨_,tr,[b,a],h,h3,by simp[G],fun c=>?_,sI,fun c z A=>?_,fun c=>?_⟩
 ·unfold Rp.two
  by_cases ha:c=a
  ·simp[ha]
  by_cases hb:c=b
  ·simp[hb,G]
  simp[ha,hb]
 ·unfold Rp.two at A
  split at A
  ·cases A;exact hx
  split at A
  ·cases A;exact hy
  cases A
 unfold Rp.two
 by_cases ha:c=a
 ·subst ha;exact .inr ⟨x,zF rfl,by rw[zF rfl];exact h2⟩
 have M:¬c.toNat=a.toNat:=fun e=>ha (sJ.1 e)
 by_cases hb:c=b
 ·subst hb;exact .inr ⟨y,by rw[zD ha,zF rfl],by rw[zD M,zF rfl];exact h1⟩
 have Z:¬c.toNat=b.toNat:=fun e=>hb (sJ.1 e);exact .inl ⟨by rw[zD ha,zD hb],by rw[zD M,zD Z]⟩
theorem b7w A T off cs x (G:cs[off]?=some (.int .u32 x)) I:yY aA 315 [ptr A off] I [(A,yV T cs)] (fun e M H'=>e= .returned (.bool (x != 0))∧H'=[(A,yV T cs)]):=
 yY.c9E (aV func315 dE rfl) G fun w h=>Sync.c0R ⟨A,off,none⟩ x w h
theorem c9j A T d G r o I:yY aA 354 [ptr A 1] I [(A,yV T [d,.int .i32 0,G,r,o])] (fun e M H'=>e= .returned (.tuple #[])∧H'=[(A,yV T [d,.int .i32 1,G,r,o])]):=
 yY.a8A (off:=1) (aV func354 dE rfl) rfl fun w h h2=>Sync.lock_free ⟨A,1,none⟩ w h h2
theorem c2f A T d G r o I:VQ aA 355 [ptr A 1] .returning I [(A,yV T [d,.int .i32 1,G,r,o])] (fun M Z H'=>M= .returning∧H'=[(A,yV T [d,.int .i32 0,G,r,o])]):=
 VQ.a8A (off:=1) (v:= .tuple #[]) (aV func355 dE rfl) rfl fun w h h2=>(Sync.unlock_deferred ⟨A,1,none⟩ .returning w h h2).mono fun _ _ _ ⟨N,O,Q⟩=>⟨N,O,.inl Q⟩
theorem c4l A T x m G r o I:VQ aA 356 [ptr A 0,.bool true] .returning I [(A,yV T [x,m,G,r,o])] (fun M Z H'=>M= .returning∧H'=[(A,yV T [.int .u32 1,m,G,r,o])]):=
 VQ.a8A (off:=0) (v:= .tuple #[]) (aV func356 dE rfl) rfl fun w h h2=>(Sync.store_deferred ⟨A,0,none⟩ x .returning w h h2).mono fun _ _ _ ⟨N,O,Q⟩=>⟨N,O,.inr Q⟩
theorem a9Q p q r z ob Z I:yY aA 168 [.slice (some ⟨ob,0,none⟩) 4 Z] I [(ob,yV 9 ([p,q,r,z].map str))]
 (fun e I' H'=>∃M A,e= .returned (ptr M 0)∧H'=[(M,yV 340 [.int .u32 0,.int .i32 0,.int .u32 0,.nilIface,A])]∧IK 9 I' [p,q,r,z] A):=by
 refine zN func168 fun w0 _=>?_;refine yU 20 ?_;refine aJ rfl (zT (by':=15) (n:=0) (g:=none) (xs:=[]) [_] rfl rfl rfl rfl rfl ED (.inr ⟨_,ED⟩) kR BD tZ9 rfl rT rfl (bU (yX.at 0 rfl) rfl rfl rfl) oM ?_);intro _ N;refine aI (zL (pl:= #[(0,3),(3,1),(4,1)]) rfl rfl zeroValue340 rfl underlying340 (fun w=>by simp[sizeOf118,sizeOf336,sizeOf338]) (GU.part rfl (a1B _ _) rfl lsA GU.none)) ?_;refine yU 1 ?_;intro b3 _;refine yU 4 ?_;obtain⟨gb,gc,O,rfl,Q⟩:=N.some dE;refine dI (aK (aK aQ)) ?_;refine dX Q (fun _ _ G=>?_);refine aT (aU (aS dR)) ?_;refine zM ?_;exact⟨b3,_,rfl,rfl,gb,gc,O,rfl,G⟩
def a9N (rb:Nat) (d m sm r o:Value):HL:=[(rb,yV 340 [d,m,sm,r,o])]
def c5Y (r:Rp.Tb) (I:Heap) (rb:Nat) (d m:Value) (H:HL):Prop:=∃xb,BSG r I xb∧H=a9N rb d m (.int .u32 0) (.iface 424 (ptr xb 0)) (.slice none 0 0)
theorem b3P{A r}(Q:a3j A r) M d m G I (Z:IK 9 I A G):yY aA 240 [ptr M 0] I (a9N M d m (.int .u32 0) .nilIface G)
 (fun e I' H'=>e= .returned (.tuple #[])∧c5Y r I' M d m H'):=by
 refine zN func240 fun w0 _=>?_;refine yU 4 ?_;refine bQ aQ ?_;refine zX (Q M _ _ _ _ G _ Z) ?_;intro _ _ _ _ N;obtain⟨xb,h,O,rfl⟩:=N;cases h;refine yU 11 ?_;refine Ej.PU rfl rfl ?_;exact⟨rfl,xb,O,rfl⟩
theorem c2t{M r}(hB:a3j M r) A N I (O:IK 9 I M N):yY aA 316 [ptr A 0,.func (.func 240) #[ptr A 0] #[]] I (a9N A (.int .u32 0) (.int .i32 0) (.int .u32 0) .nilIface N)
 (fun e I' H'=>e= .returned (.tuple #[])∧c5Y r I' A (.int .u32 1) (.int .i32 0) H'):=by
 refine yY.b3O func316 rfl dE (tJ rfl) ?_;intro w0 _;refine yU 5 ?_;refine bQ aQ ?_;refine zX (c9j A 340 _ _ _ _ _) ?_;intro _ _ _ Q a1;have O:=O.mono Q;obtain⟨h,rfl⟩:=a1;cases h;refine yU 7 ?_;refine J.defer rfl rfl rfl rfl rfl ?_;refine J.ER (aI zS ?_);refine aI ET ?_;refine aI (zY (off':=0) underlying336 sizeOf330) ?_;refine bQ aQ ?_;refine zX (b7w A 340 0 _ 0 rfl _) ?_;intro _ _ _ G Z;have O:=O.mono G;obtain⟨h,rfl⟩:=Z;cases h;refine yU 9 ?_;refine J.defer rfl rfl rfl rfl rfl ?_;refine J.UM (aI zS ?_);refine bQ aQ ?_;refine zX (b3P hB A _ _ N _ O) ?_;intro _ _ _ _ a0;obtain⟨h,xb,a2,rfl⟩:=a0;cases h;refine yU 1 ?_;refine Ej.d0P (H1:=[_]) (R1:=[]) rfl (c4l A 340 _ _ _ _ _ _) (fun _=>c2f A 340 _ _ _ _ _) (fun _ G=>a5v.none rfl ?_);exact⟨rfl,xb,a2.mono G,rfl⟩
theorem d1h{G r}(hB:a3j G r) A M I (N:IK 9 I G M):yY aA 239 [ptr A 0,.func (.func 240) #[ptr A 0] #[]] I (a9N A (.int .u32 0) (.int .i32 0) (.int .u32 0) .nilIface M)
 (fun e I' H'=>e= .returned (.tuple #[])∧c5Y r I' A (.int .u32 1) (.int .i32 0) H'):=by
 refine zN func239 fun w0 _=>?_;refine yU 5 ?_;refine bQ aQ ?_;refine zX (b7w A 340 0 _ 0 rfl _) ?_;intro _ _ _ O Z;have N:=N.mono O;obtain⟨h,rfl⟩:=Z;cases h;refine yU 7 ?_;refine bQ aQ ?_;refine zX (c2t hB A M _ N) ?_;intro _ _ _ _ Q;obtain⟨h,xb,a0,rfl⟩:=Q;cases h;refine yU 1 ?_;refine Ej.PU rfl rfl ?_;exact⟨rfl,xb,a0,rfl⟩
theorem b8S{A r}(Q:a3j A r) M G s (Z:s.length≤1000000000) I (ho:IK 9 I A G):yY aA 169 [ptr M 0,str s] I (a9N M (.int .u32 0) (.int .i32 0) (.int .u32 0) .nilIface G)
 (fun e I' H'=>e= .returned (str (Rp.rep r s))∧H'=[]):=by
 refine zN func169 fun w0 _=>?_;refine yU 12 ?_;refine bQ aQ ?_;refine zX (d1h Q M G _ ho) ?_;intro _ _ _ _ N;obtain⟨h,xb,O,rfl⟩:=N;cases h;refine yU 9 ?_;refine aJ rfl (c3F (H1:=[]) (T:=424) rfl rfl rfl rfl rfl kR underlying424 (c7c _ xb s Z _ O) ?_ (fun _ _ _ _ h=>by cases h.1) (fun _ _ h=>by cases h.1));rintro _ _ _ _ ⟨h,rfl,rfl⟩;cases h;refine zV ?_;exact rT
end Go.Proofs.YtalapkjmkjmpjaaGreatDoor
end
section
namespace Go.Proofs.YtalapkjmkjmpjaaGreatDoor
open _root_.Go.Proofs.Tryz
open Go Go.Sx
theorem b8C:(Value.agg dS).cells=(tab (fun _=> .slice none 0 0) (.slice none 0 0)).toArray:=by
 show dS=_;kernel_rfl
theorem c3n:a3j [[32],[],[45],[]] (Rp.two 32 [] 45 []):=by
 intro _ _ _ _ _ _ I ho;obtain⟨ob,_,_,rfl,M⟩:=ho;rw[show([[32],[],[45],[]]:List (List UInt8)).length=4 from rfl];refine zN func317 fun w0 _=>?_;refine yU 44 ?_;refine Cj.rounds 3 ?_;refine dJ ?_;refine yU 9 ?_;refine bM rfl (fun a3=>?_) (fun a3=>aF (bF (bP (by first|rfl|decide)) a3));refine zW 0 ?_;refine yU 5 ?_;refine bM rfl (fun a4=>aF (bF (bP (by first|rfl|decide)) a4)) (fun a4=>?_);refine zW 1 ?_;refine yU 5 ?_;refine bM rfl (fun a5=>?_) (fun a5=>aF (bF (bP (by first|rfl|decide)) a5));refine yU 10 ?_;refine dM ?_;refine dJ ?_;refine yU 9 ?_;refine bM rfl (fun a6=>?_) (fun a6=>aF (bF (bP (by first|rfl|decide)) a6));refine zW 2 ?_;refine yU 5 ?_;refine bM rfl (fun a7=>aF (bF (bP (by first|rfl|decide)) a7)) (fun a7=>?_);refine zW 3 ?_;refine yU 5 ?_;refine bM rfl (fun a8=>?_) (fun a8=>aF (bF (bP (by first|rfl|decide)) a8));refine yU 10 ?_;refine dM ?_;refine dJ ?_;refine yU 9 ?_;refine bM rfl (fun a9=>aF (bF (bP (by first|rfl|decide)) a9)) (fun a9=>?_);refine yU 18 ?_;refine aI (a5i rfl rfl rfl dE dE) ?_;refine aJ rfl (a5p (n:=0) (c:=2) (by1:=16) (z:=(str [])) rfl rfl rfl rfl rfl ED kR rfl oM oM oM ?_);intro aa ab;refine aI (zL (zs:=tab (fun _=> .slice none 0 0) (.slice none 0 0)) (cs:=tab (fun _=> .slice none 0 0) (.slice (some ⟨aa,0,none⟩) 0 2)) (pl:= #[(0,256),(256,1)]) rfl rfl zeroValue423 b8C underlying423 (fun w=>by simp[sizeOf421,sizeOf118]) (GU.part rfl rfl rfl (c8y _ _ _) GU.none)) ?_;refine aJ rfl (EN (zs:=tab (fun _=> .slice none 0 0) (.slice none 0 0)) rfl rfl rfl zeroValue423 b8C ?_);intro aj ac;refine aJ rfl (DV 0 rfl rfl rfl rfl rfl (c8t (fun _=>rfl) rfl) sizeOf423 (PL _ _) rfl (AX.all (by rw[PL,PL])) bG ?_);refine bQ aQ ?_;refine bQ (aK (aK aQ)) ?_;refine yU 12 ?_;refine Cj.rounds 3 ?_;refine dJ ?_;refine yU 7 ?_;refine bM rfl (fun O=>?_) (fun O=>aF (bF (bP (by first|rfl|decide)) O));refine zW 2 ?_;refine yU 1 ?_;refine aI (FB (c:=45) rfl rfl rfl AV dE rfl) ?_;refine zW 3 ?_;refine yU 10 ?_;refine aI (BU rfl rfl isAgg268 (yX.at 1 rfl) (SV _ _ dE)) ?_;refine bJ 116 (.slice none 0 0) rfl (by first|rfl|exact zD dE) ?_;refine yU 6 ?_;refine aI (DI isAgg118 (yX.at 1 rfl) (a9H _ _)) ?_;refine yU 2 ?_;intro _ _;refine aI (OE [45] rfl rfl rfl KE AV tU5 (yX.at 0 rfl) rfl) ?_;refine yU 1 ?_;intro _ _;refine aJ rfl (zT (by':=15) (n:=0) (g:=some (aa,2,List.replicate 2 (str []))) (xs:=[]) [_,_,_,_] rfl rfl rfl rfl rfl ED (.inr ⟨_,ED⟩) kR BD tZ9 rfl ⟨ab,rfl,rfl⟩ rfl (bU (yX.at 0 rfl) rfl rfl rfl) oM ?_);intro _ ad;refine yU 1 ?_;refine aJ rfl (MG 3 rfl rfl rfl rfl (b1Y _ _) (b7v _ _) sizeOf118 rfl (.inl rfl) (by rw[PL];decide) (BL.tr (aN (aN (aN bG)))) ?_);refine yU 5 ?_;refine aJ rfl (XK rfl rfl rfl rfl AV KE tU5 ?_);intro al _ _ _ ae _;refine dD ae (fun _ a1 A=>?_);have M:=a1 _ _ M;refine yU 2 ?_;refine aJ rfl (MG 3 rfl rfl rfl rfl rfl rfl a0M rfl (.inl rfl) (by rw[PL];decide) (BL.tb dE (aN (aN (aN bG)))) ?_);refine yU 8 ?_;refine dM ?_;refine dJ ?_;refine yU 7 ?_;refine bM rfl (fun Q=>?_) (fun Q=>aF (bF (bP (by first|rfl|decide)) Q));refine zW 0 ?_;refine yU 1 ?_;refine aI (FB (c:=32) rfl rfl rfl AV dE rfl) ?_;refine zW 1 ?_;refine yU 10 ?_;refine aI (BU rfl rfl isAgg268 (yX.at 3 rfl) (SV _ _ dE)) ?_;refine bJ 116 (.slice none 0 0) rfl (by first|rfl|exact zD dE) ?_;refine yU 6 ?_;refine aI (DI isAgg118 (yX.at 3 rfl) (a9H _ _)) ?_;refine yU 2 ?_;intro _ _;refine aI (OE [32] rfl rfl rfl KE AV tU5 (yX.at 0 rfl) rfl) ?_;refine yU 1 ?_;intro _ _;refine KT 15 [_,_,_,_,_,_] ad ?_;intro _ af;refine yU 1 ?_;refine aJ rfl (MG 5 rfl rfl rfl rfl (b1Y _ _) (b7v _ _) sizeOf118 rfl (.inl rfl) (by rw[PL];decide) (BL.tr (aN (aN (aN (aN (aN bG)))))) ?_);refine yU 5 ?_;refine aJ rfl (XK rfl rfl rfl rfl AV KE tU5 ?_);intro am _ _ _ ag _;refine dD ag (fun _ N a2=>?_);have M:=N _ _ M;have A:=N _ _ A;refine yU 2 ?_;refine aJ rfl (MG 5 rfl rfl rfl rfl rfl rfl a0M rfl (.inl rfl) (by rw[PL];decide) (BL.tb dE (aN (aN (aN (aN (aN bG)))))) ?_);refine yU 8 ?_;refine dM ?_;refine dJ ?_;refine yU 7 ?_;refine bM rfl (fun Z=>aF (bF (bP (by first|rfl|decide)) Z)) (fun Z=>?_);refine yU 12 ?_;obtain⟨gb,gc,an,rfl,ao⟩:=af.some dE;refine dI (aK (aK (aK (aK (aK (aK aQ)))))) ?_;refine dX ao (fun _ a0 ah=>?_);refine dI (aK (aK (aK (aK (aK aQ))))) ?_;refine dX ac (fun _ G ai=>?_);refine aT (aS (aS (aS (aS (aU dR))))) ?_;refine zM ?_;exact⟨aj,rfl,BSG.two dE dE dE ai ⟨al,_,_,_,rfl,G _ _ (a0 _ _ A)⟩ ⟨am,_,_,_,rfl,G _ _ (a0 _ _ a2)⟩ ⟨gb,gc,an,rfl,G _ _ ah⟩,rfl⟩
theorem c8q s:Rp.rep (Rp.two 32 [] 45 []) s=Ke.rep s:=by
 induction s with
 |nil=>rfl
 |cons c s A=>
  show Rp.one _ c++Rp.rep _ s=Ke.rep (c::s);rw[A];unfold Ke.rep Rp.one Rp.two;rw[List.filter_cons,Ke.d1f]
  by_cases h1:c=32
  ·simp[h1]
  by_cases h2:c=45
  ·simp[h2]
  simp[h1,h2]
theorem b7g G A s (M:s.length≤1000000000) I (N:IK 9 I [[32],[],[45],[]] A):yY aA 169 [ptr G 0,str s] I (a9N G (.int .u32 0) (.int .i32 0) (.int .u32 0) .nilIface A) (fun e O H'=>e= .returned (str (Ke.rep s))∧H'=[]):=by
 rw[←c8q];exact b8S c3n G A s M I N
end Go.Proofs.YtalapkjmkjmpjaaGreatDoor
end
namespace Ke
open Go Go.Sx
def a3X:Nat→List (Nat×Bs)→ML Int
 |_,[]=>[]
 |i,(c,s)::r=>((c:Int),dN s,i)::a3X (i+1) r
def a1K (l:List (Nat×Bs)):ML Int:=a3X 0 l
theorem cc(c d:Nat):((c:Int) == (d:Int))=(c == d):=by rw[yM,beq_iff_eq,beq_iff_eq];omega
theorem a7U:∀(l:List (Nat×Bs)) (i c:Nat),AQ (a3X i l) (c:Int)=(l.lookup c).map dN
 |[],_,_=>rfl
 |(d,s)::r,i,c=>by
  simp only[a3X,AQ,cc,cO]
  by_cases h:c=d
  ·subst h;simp
  have:(c == d)=false:=by simpa using h
  rw[this];simp only[yL,if_false];exact a7U r (i+1) c
theorem b5A:∀(l:List (Nat×Bs)) (i c:Nat) (s:Bs),c ∉ l.map (·.1)→BF (a3X i l) (c:Int) (dN s) (i+l.length)=a3X i (l++[(c,s)])
 |[],_,_,_,_=>rfl
 |(d,t)::r,i,c,s,h=>by
  simp only[wF,vX,not_or]at h;have:(c == d)=false:=by simpa using h.1
  simp only[a3X,BF,cc,this,yC,wU];simp only[yL,if_false];rw[←b5A r (i+1) c s h.2,show i+1+r.length=i+(r.length+1) by omega]
theorem a2z:∀{l:List (Nat×Bs)} {c:Nat},c ∉ l.map (·.1)→l.lookup c=none
 |[],_,_=>rfl
 |(d,t)::r,c,h=>by
  simp only[wF,vX,not_or]at h;have:(c == d)=false:=by simpa using h.1
  rw[cO,this];exact a2z h.2
theorem b5I{l}{c:Nat}{s}(h:c ∉ l.map (·.1)):BF (a1K l) (c:Int) (dN s) l.length=a1K (l++[(c,s)])∧EJ (a1K l) (c:Int) l.length=(l++[(c,s)]).length:=by
 refine⟨by have:=b5A l 0 c s h;rwa [sS]at this,?_⟩;unfold EJ a1K;rw[a7U,a2z h];simp
def b3k:List Bs:=rows.map fun p=>p.1++32::p.2
theorem a4n:∀(x y:List (Bs×Bs)),KW (x++y)=KW x++KW y
 |[],_=>rfl
 |(a,b)::r,y=>by simp only[yC,KW,a4n r y,yE]
theorem a7f{k a b}(h:rows[k]?=some (a,b)):KW (rows.take (k+1))=KW (rows.take k)++(runes b).map (·,a):=by
 obtain⟨A,G⟩:=xC.1 h;rw[tN A,G,a4n];simp[KW]
theorem fresh{k c a b x y}(h:rows[k]?=some (a,b))(N:runes b=x++c::y):c ∉ (KW (rows.take k)++x.map (·,a)).map (·.1):=by
 have A:=b1y;have e:rows=rows.take k++(a,b)::rows.drop (k+1):=by
  obtain⟨G,O⟩:=xC.1 h;rw[←O,←List.drop_eq_getElem_cons G,uD]
 rw[←a9r,e,a4n]at A;simp only[KW,N,wG,wF]at A;have Q:(KW (rows.take k)).map (·.1)++((x.map (·,a)).map (·.1)++c::(y.map (·,a)).map (·.1)++(KW (rows.drop (k+1))).map (·.1))=((KW (rows.take k)).map (·.1)++(x.map (·,a)).map (·.1))++c::((y.map (·,a)).map (·.1)++(KW (rows.drop (k+1))).map (·.1)):=sI;rw[Q,vK]at A;intro M;rw[wG]at M;exact A.2.2 c M c (.head _) rfl
theorem b1e:∀p∈rows,p.1.all (fun c=>decide (c≠32))=true∧p.1.length≤10∧p.2.length≤100:=by decide +kernel
def cutAt (c:UInt8):Bs→Bs×Bs×Bool
 |[]=>([],[],false)
 |d::r=>if d=c then([],r,true)else(d::(cutAt c r).1,(cutAt c r).2)
theorem b1W:∀{a b:Bs} {c:UInt8},a.all (fun d=>decide (d≠c))=true→cutAt c (a++c::b)=(a,b,true)
 |[],b,c,_=>by simp[cutAt]
 |d::r,b,c,h=>by
  rw[yH,yP]at h;have h1:d≠c:=zA h.1;simp only[yC,cutAt,zD h1,b1W h.2]
theorem a5H:∀(c:UInt8) (s:Bs),(bT s c= -1∧cutAt c s=(s,[],false))∨∃n:Nat,bT s c=n∧n<s.length∧cutAt c s=(s.take n,s.drop (n+1),true)
 |c,[]=> .inl rT
 |c,d::r=>by
  unfold bT
  by_cases hd:d=c
  ·subst hd;exact .inr ⟨0,sI,sI,by simp[cutAt]⟩
  have A:(d == c)=false:=by simpa using hd
  rw[A];rcases a5H c r with⟨h1,h2⟩|⟨n,G,O,M⟩
  ·rw[h1];exact .inl ⟨sI,by simp[cutAt,hd,h2]⟩
  rw[G];have N:((n:Int) == -1)=false:=by
   rw[beq_eq_false_iff_ne];omega
  rw[N];exact .inr ⟨n+1,sI,by simp;omega,by simp[cutAt,hd,M]⟩
theorem a7g{b i x}(h:runes b=x++runes (b.drop i))(A:i<b.length):runes b=x++(aB ⟨b.toArray⟩ i).1::runes (b.drop (i+(aB ⟨b.toArray⟩ i).2)):=by
 rw[h,a1s A]
theorem b5v{b i x}(h:runes b=x++runes (b.drop i))(A:i<b.length):runes b=(x++[(aB ⟨b.toArray⟩ i).1])++runes (b.drop (i+(aB ⟨b.toArray⟩ i).2)):=by
 rw[a7g h A];simp
theorem c0c{b i x}(h:runes b=x++runes (b.drop i))(A:¬i<b.length):runes b=x:=by
 rw[h,a0f oM,yD]
end Ke
section
namespace Go.Proofs.YtalapkjmkjmpjaaGreatDoor
open Go Go.Sx
def Tab (I:Heap) (b:Nat):Prop:=I b=some (zZ (fun a:Int=>aG .i32 a) (Ke.a1K cZ) 207)
theorem Tab.mono{I A b}(h:Tab I b)(G:Le I A):Tab A b:=G _ _ h
theorem ZY{a b:Prop}[Decidable a][Decidable b](h:(decide a && decide b)=true):a∧b:=by simpa using h
theorem a0b{a b:Prop}[Decidable a][Decidable b](h:(decide a && decide b)=false):¬(a∧b):=fun g=>by simp[g.1,g.2]at h
theorem KL c a b I:Pure aA 244 [.int .i32 c,.int .i32 a,.int .i32 b] I (.bool (decide (a≤c) && decide (c≤b))):=by
 refine zN Tryz.func244 fun w0 _=>?_;refine EH ?_ ?_<;>intro A
 ·refine zM ?_;refine⟨?_,rfl,rfl⟩;have h:=A
  first|(simp_all;done)|(simp_all;omega)
 refine zM ?_;refine⟨?_,rfl,rfl⟩;have h:=A
 first|(simp_all;done)|(simp_all;omega)
theorem c9A(c b:Nat)(hc:c≤1114111) I (hT:Tab I b):Pure aA 179 [.int .i32 (c:Int),.map (some b)] I (str (aH c)):=by
 have hm:AQ (Ke.a1K cZ) (c:Int)=(cZ.lookup c).map str:=Ke.a7U _ 0 c;refine zN Tryz.func179 fun w0 _=>?_;refine zO (KL _ _ _ _) ?_;refine DF ?_ ?_<;>intro a1
 ·have b0:=ZY a1;refine zM ?_;refine⟨?_,rfl,rfl⟩;refine zC (fun l=>aC (str l)) ?_;unfold aH;rw[zF oM];exact aO (by unfold dA;omega)
 have b1:=a0b a1;refine zO (KL _ _ _ _) ?_;refine DF ?_ ?_<;>intro a2
 ·have b2:=ZY a2;refine zM ?_;refine⟨?_,rfl,rfl⟩;refine zC (fun l=>aC (str l)) ?_;unfold aH;rw[zF oM];exact aO (by unfold dA;omega)
 have b3:=a0b a2;refine zO (KL _ _ _ _) ?_;refine DF ?_ ?_<;>intro a3
 ·have av:=ZY a3;refine zM ?_;refine⟨?_,rfl,rfl⟩;refine zC (fun l=>aC (str l)) ?_;unfold aH;rw[zD oM,zF oM];exact(zC (fun n:Int=>(dG n).data.toList) oM).trans (aO (c:=c+32) (by unfold dA;omega))
 have aw:=a0b a3;refine yZ ?_ ?_<;>intro a4 aa
 ·have ax:=DK a4;refine zM ?_;refine⟨?_,rfl,rfl⟩;refine zC (fun l=>aC (str l)) ?_;unfold aH;rw[zD oM,zD oM,zF oM]
 have ay:=DN a4;refine zO (KL _ _ _ _) ?_;refine DF ?_ ?_<;>intro a5
 ·have az:=ZY a5;refine zM ?_;refine⟨?_,rfl,rfl⟩;refine zC (fun l=>aC (str l)) ?_;unfold aH;rw[zD oM,zD oM,zD oM,zF oM]
 have ab:=a0b a5;refine zO (KL _ _ _ _) ?_;refine DF ?_ ?_<;>intro a6
 ·have ac:=ZY a6;refine zM ?_;refine⟨?_,rfl,rfl⟩;refine zC (fun l=>aC (str l)) ?_;unfold aH;rw[zD oM,zD oM,zD oM,zF oM]
 have ad:=a0b a6;refine yU 8 ?_;refine aI (XE (kv:=fun a:Int=>aG .i32 a) (l:=Ke.a1K cZ) (a:=(c:Int)) rfl rfl rfl rfl Tryz.underlying273 (FT.int b9x) tZ9 (bH hT)) ?_;refine DF ?_ ?_<;>intro a7
 ·obtain⟨x,A⟩:=Option.isSome_iff_exists.1 (show(cZ.lookup c).isSome=true by have h:=a7;rw[hm]at h;simpa using h);refine Cj.ez 5 (str x) rfl (by rw[hm,A];rfl) ?_;refine zM ?_;refine⟨?_,rfl,rfl⟩;refine zC (fun l=>aC (str l)) ?_;unfold aH;rw[zD oM,zD oM,zD oM,zD oM,A]
 have A:cZ.lookup c=none:=by have h:=a7;rw[hm]at h;simpa using h
 refine yZ ?_ ?_<;>intro G a8
 ·have ae:=BP G;refine zM ?_;refine⟨?_,rfl,rfl⟩;refine zC (fun l=>aC (str l)) ?_;unfold aH;rw[zD oM,zD oM,zD oM,zD oM,A];simp only;rw[zF oM];rfl
 have af:=CB G;refine zO (KL _ _ _ _) ?_;refine DF ?_ ?_<;>intro M
 ·have ag:=ZY M;refine zM ?_;refine⟨?_,rfl,rfl⟩;refine zC (fun l=>aC (str l)) ?_;unfold aH;rw[zD oM,zD oM,zD oM,zD oM,A];simp only;rw[zD oM,zF oM];exact aO (by unfold dA;omega)
 have ah:=a0b M;refine zO (KL _ _ _ _) ?_;refine DF ?_ ?_<;>intro N
 ·have ai:=ZY N;refine zM ?_;refine⟨?_,rfl,rfl⟩;refine zC (fun l=>aC (str l)) ?_;unfold aH;rw[zD oM,zD oM,zD oM,zD oM,A];simp only;rw[zD oM,zF oM];exact aO (by unfold dA;omega)
 have aj:=a0b N;refine zO (KL _ _ _ _) ?_;refine EH ?_ ?_<;>intro O
 ·have al:=ZY O;refine yZ ?_ ?_<;>intro Q a9
  ·have am:(c:Int)≠930:=by have h:=Q;simpa using h
   refine zM ?_;refine⟨?_,rfl,rfl⟩;refine zC (fun l=>aC (str l)) ?_;unfold aH;rw[zD oM,zD oM,zD oM,zD oM,A];simp only;rw[zD oM,zD oM,zF oM];exact(zC (fun n:Int=>(dG n).data.toList) oM).trans (aO (c:=c+32) (by unfold dA;omega))
  have an:¬(c:Int)≠930:=by have h:=Q;simpa using h
  refine zO (KL _ _ _ _) ?_;refine DF ?_ ?_<;>intro Z
  ·have ao:=ZY Z;refine zM ?_;refine⟨?_,rfl,rfl⟩;refine zC (fun l=>aC (str l)) ?_;unfold aH;rw[zD oM,zD oM,zD oM,zD oM,A];simp only;rw[zD oM,zD oM,zF oM];exact(zC (fun n:Int=>(dG n).data.toList) oM).trans (aO (c:=c+32) (by unfold dA;omega))
  have ap:=a0b Z;refine zM ?_;refine⟨?_,rfl,rfl⟩;refine zC (fun l=>aC (str l)) ?_;unfold aH;rw[zD oM,zD oM,zD oM,zD oM,A];simp only;rw[zD oM,zD oM,zD oM]
 have aq:=a0b O;refine zO (KL _ _ _ _) ?_;refine DF ?_ ?_<;>intro a0
 ·have ar:=ZY a0;refine zM ?_;refine⟨?_,rfl,rfl⟩;refine zC (fun l=>aC (str l)) ?_;unfold aH;rw[zD oM,zD oM,zD oM,zD oM,A];simp only;rw[zD oM,zD oM,zF oM];exact(zC (fun n:Int=>(dG n).data.toList) oM).trans (aO (c:=c+32) (by unfold dA;omega))
 have au:=a0b a0;refine zM ?_;refine⟨?_,rfl,rfl⟩;refine zC (fun l=>aC (str l)) ?_;unfold aH;rw[zD oM,zD oM,zD oM,zD oM,A];simp only;rw[zD oM,zD oM,zD oM]
end Go.Proofs.YtalapkjmkjmpjaaGreatDoor
end
section
namespace Go.Proofs.YtalapkjmkjmpjaaGreatDoor
open _root_.Go.Proofs.Tryz
open Go Go.Sx
theorem c1W s c I:Pure aA 380 [str s,str [c]] I (i64 (bT s c)):=
 dP (aV func380 dE rfl) fun w _=>by
  have h:=Tryz.stringslite_Index_one ⟨s.toArray⟩ c w;rw[GK]at h;exact h
theorem c9a s c (O:s.length≤1000000000) I:Pure aA 360 [str s,str [c]] I (.tuple #[str (Ke.cutAt c s).1,str (Ke.cutAt c s).2.1,.bool (Ke.cutAt c s).2.2]):=by
 refine zN func360 fun w0 _=>?_;refine zO (c1W s c _) ?_;refine yZ ?_ ?_<;>intro A G
 ·obtain⟨n,M,_,N⟩:=(Ke.a5H c s).resolve_left (fun h=>by have:=DK A;omega);refine Cj.ez 7 (i64 (n:Int)) rfl (zC i64 M) ?_;refine yU 1 ?_;refine bV [] [] 12 kR ?_;refine yU 2 ?_;refine bK 2 rfl (AO (p:=0) (q:=n) rfl rfl AV rfl ⟨_,rfl⟩ oM oM) ?_;refine bY 15 (str (s.take n)) rfl (by rw[xU]) ?_;refine yU 4 ?_;refine bK 7 rfl (FM rfl rfl rfl (IJ (by simp only[wU,wL];omega))) ?_;refine bK 8 rfl (AO (p:=n+1) (q:=s.length) rfl rfl AV ⟨_,rfl⟩ rfl oM oM) ?_;refine bY 21 (str (s.drop (n+1))) rfl (by rw[tY]) ?_;refine yU 7 ?_;refine Ej.c6r rfl rfl rfl rfl rfl ?_;refine⟨?_,rfl,rfl⟩;rw[N]
 have g:=(Ke.a5H c s).resolve_right (fun⟨n,h,_⟩=>by have:=DN A;omega);refine yU 11 ?_;refine Ej.c6r rfl rfl rfl rfl rfl ?_;refine⟨?_,rfl,rfl⟩;rw[g.2];rfl
theorem c9W s c (A:s.length≤1000000000) I:Pure aA 322 [str s,str [c]] I (.tuple #[str (Ke.cutAt c s).1,str (Ke.cutAt c s).2.1,.bool (Ke.cutAt c s).2.2]):=by
 refine zN func322 fun w0 _=>?_;refine zO (c9a s c A _) ?_;refine yU 9 ?_;refine Ej.c6r rfl rfl rfl rfl rfl ?_;exact rT
theorem b6o M rc I (a1:I M=some (yV 9 (Ke.b3k.map str))):yY aA 243 [.slice (some ⟨M,0,none⟩) 31 rc] I []
 (fun e I' H'=>∃tb,e= .returned (.map (some tb))∧H'=[(tb,zZ (fun a:Int=>aG .i32 a) (Ke.a1K cZ) 207)]):=by
 refine zN func243 fun w0 _=>?_;refine yU 7 ?_;refine aJ rfl (BG rfl rfl rfl ?_);intro G _;refine yU 12 ?_;refine dH (ι:=Nat) (fun k=>k≤31) (fun k=>31-k) (fun k=>[(3,.map (some G)),(12,.slice (some ⟨M,0,none⟩) 31 rc),(13,.int .i64 ((31:Nat):Int)),(14,i64 (k:Int))]) (fun k=>_) (fun k=>[(G,zZ (fun a:Int=>aG .i32 a) (Ke.a1K (dF (bZ.take k))) (dF (bZ.take k)).length)]) 0 (sQ _) rT rfl rfl ?_;intro k _;refine yZ ?_ ?_<;>intro Q a0
 ·have a2:k<31:=by have:=DK Q;omega
  obtain⟨⟨a,b⟩,A⟩:∃p,bZ[k]?=some p:=⟨_,AA (show k<bZ.length from a2)⟩;obtain⟨ha,a3,a4⟩:=Ke.b1e _ (CJ A);have a5:(Ke.b3k.map str)[k]?=some (str (a++32::b)):=by simp[Ke.b3k,A]
  refine zW k ?_;refine aI (DI DU (bH a1) a5) ?_;refine zO (c9W (a++32::b) 32 (by dsimp only at a3 a4;simp;omega) _) ?_;refine bJ 20 (.tuple #[str a,str b,.bool true]) rfl (by rw[Ke.b1W ha]) ?_;refine yU 12 ?_;refine aJ rfl (OJ rfl rfl rfl rfl AV ?_);intro b3 _;refine yU 3 ?_;refine dH (ι:=Nat×List Nat) (fun j=>j.1≤b.length∧Ke.runes b=j.2++Ke.runes (b.drop j.1)) (fun j=>b.length-j.1) (fun j=>[(3,.map (some G)),(6,str a),(12,.slice (some ⟨M,0,none⟩) 31 rc),(13,.int .i64 ((31:Nat):Int)),(14,i64 (k:Int)),(25,ptr b3 0)]) (fun j=>_) (fun j=>[(b3,.stringIter ⟨b.toArray⟩ j.1),(G,zZ (fun a:Int=>aG .i32 a) (Ke.a1K (dF (bZ.take k)++j.2.map (·,a))) (dF (bZ.take k)++j.2.map (·,a)).length)]) (0,[]) ⟨sQ _,rfl⟩ rT rfl sI ?_;rintro⟨i,x⟩ ⟨hi,N⟩;dsimp only at hi N ⊢;rcases tC i b.length with O|O
  ·have hw:=dY b O;have Z:=Ke.fresh A (Ke.a7g N O);refine yU 2 ?_;refine aJ rfl (ZA 0 rfl rfl rfl rfl rfl (by rw[size_mk];omega) bG ?_);refine yU 18 ?_;refine aJ rfl (EY (kv:=fun a:Int=>aG .i32 a) (a:=((aB ⟨b.toArray⟩ i).1:Int)) 1 (.inr rfl) rfl rfl rfl rfl rfl underlying273 (FT.int b9x) rfl (aN bG) ?_);rw[(Ke.b5I (s:=a) Z).1,(Ke.b5I (s:=a) Z).2];refine yU 2 ?_;refine aW (i+(aB ⟨b.toArray⟩ i).2,x++[(aB ⟨b.toArray⟩ i).1]) ⟨hw.2,Ke.b5v N O⟩ dO rT rfl (by simp only[wG,wF,wC,yE])

  refine yU 2 ?_;refine aJ rfl (UC 0 rfl rfl rfl rfl rfl (by rw[size_mk];omega) ?_);refine yU 15 ?_;refine aT (aS (aU dR)) ?_;refine aW (k+1) oM oM rT rfl (by rw[Ke.a7f A,Ke.c0c N oM])
 refine yU 12 ?_;obtain rfl:k=31:=oM;refine zM ?_;have he:dF (bZ.take 31)=cZ:=by rw[tX dE];exact Ke.a9r
 refine⟨G,rfl,?_⟩;rw[he];rfl
theorem c5s:yV 9 (Ke.b3k.map str)=yV 9 [str [97,32,195,160,195,161,195,162,195,163,195,164,195,165,196,129,196,131,196,133,195,128,195,129,195,130,195,131,195,132,195,133,196,128,196,130,196,132],str [99,32,195,167,196,135,196,137,196,139,196,141,195,135,196,134,196,136,196,138,196,140],str [100,32,196,143,196,145,195,176,196,142,196,144,195,144],str [101,32,195,168,195,169,195,170,195,171,196,147,196,149,196,151,196,153,196,155,195,136,195,137,195,138,195,139,196,146,196,148,196,150,196,152,196,154],str [103,32,196,157,196,159,196,161,196,163,196,156,196,158,196,160,196,162],str [104,32,196,165,196,167,196,164,196,166],str [105,32,195,172,195,173,195,174,195,175,196,169,196,171,196,173,196,175,196,177,195,140,195,141,195,142,195,143,196,168,196,170,196,172,196,174,196,176],str [106,32,196,181,196,180],str [107,32,196,183,196,182],str [108,32,196,186,196,188,196,190,197,130,196,185,196,187,196,189,197,129],str [110,32,195,177,197,132,197,134,197,136,195,145,197,131,197,133,197,135],str [111,32,195,178,195,179,195,180,195,181,195,182,195,184,197,141,197,143,197,145,198,161,195,146,195,147,195,148,195,149,195,150,195,152,197,140,197,142,197,144,198,160],str [114,32,197,149,197,151,197,153,197,148,197,150,197,152],str [115,32,197,155,197,157,197,159,197,161,197,154,197,156,197,158,197,160],str [116,32,197,163,197,165,197,167,197,162,197,164,197,166],str [117,32,195,185,195,186,195,187,195,188,197,169,197,171,197,173,197,175,197,177,197,179,198,176,195,153,195,154,195,155,195,156,197,168,197,170,197,172,197,174,197,176,197,178,198,175],str [119,32,197,181,197,180],str [121,32,195,189,195,191,197,183,195,157,197,184,197,182],str [122,32,197,186,197,188,197,190,197,185,197,187,197,189],str [97,101,32,195,166,195,134],str [111,101,32,197,147,197,146],str [115,115,32,195,159],str [116,104,32,195,190,195,158],str [206,177,32,206,172,206,134],str [206,181,32,206,173,206,136],str [206,183,32,206,174,206,137],str [206,185,32,206,175,207,138,206,144,206,138,206,170],str [206,191,32,207,140,206,140],str [207,133,32,207,141,207,139,206,176,206,142,206,171],str [207,137,32,207,142,206,143],str [208,181,32,209,145,208,129]]:=kR
theorem b8Z(I:Heap):yY Tryz.prog 178 [] I [] (fun e I' H'=>∃tb,e= .returned (.map (some tb))∧H'=[(tb,zZ (fun a:Int=>Value.int .i32 a) (Ke.a1K Ke.tab) 207)]):=by
 refine yY.ob func178 ?_;intro w0 hw0;refine Cj.sr (J.z BI ?_);refine J.ER (J.op rfl (CY ED BD tZ9 (DC.one rfl (DC.one rfl (DC.one rfl (DC.one rfl (DC.one rfl (DC.one rfl (DC.one rfl (DC.one rfl (DC.one rfl (DC.one rfl (DC.one rfl (DC.one rfl (DC.one rfl (DC.one rfl (DC.one rfl (DC.one rfl (DC.one rfl (DC.one rfl (DC.one rfl (DC.one rfl (DC.one rfl (DC.one rfl (DC.one rfl (DC.one rfl (DC.one rfl (DC.one rfl (DC.one rfl (DC.one rfl (DC.one rfl (DC.one rfl (DC.one rfl DC.none))))))))))))))))))))))))))))))) ?_));intro b1 hb1;refine J.persist hb1 (fun I3 hle2 hb1i=>?_);refine J.op rfl (zU (H1:=[]) rfl rfl rfl rfl rfl (b6o b1 _ _ (by rw[c5s];exact hb1i)) ?_ (fun _ _ _ _ h=>by obtain⟨_,h,_⟩:=h;cases h) (fun _ _ h=>by obtain⟨_,h,_⟩:=h;cases h));intro v4 I5 H6 hle7 hp8;have hb1i:=hle7 _ _ hb1i;obtain⟨tb,h,rfl⟩:=hp8;cases h;refine J.z BI ?_;refine J.ns (Cj.ret ?_);refine Ej.YI rfl rfl rfl ?_;exact⟨tb,rfl,rfl⟩
end Go.Proofs.YtalapkjmkjmpjaaGreatDoor
end
section
namespace Go.Proofs.YtalapkjmkjmpjaaGreatDoor
open _root_.Go.Proofs.Tryz
open Go Go.Sx
def KY (b:Nat) (l:List UInt8) (p:Bool) (g:Gs):HL:=(b,yV 277 [if p then ptr b 0 else .pointer none,gV l.length g])::gH 5 (DJ l) g
theorem a8B b v I:yY aA 245 [ptr b 0] I [(b,yV 277 [.pointer none,v])] (fun e A H'=>e= .returned (.tuple #[])∧H'=[(b,yV 277 [ptr b 0,v])]):=by
 refine zN func245 fun w0 _=>?_;refine yU 13 ?_;refine aI (b6H 1 rfl rfl underlying275 b3m kR (yX.at 0 rfl) sI) ?_;refine aI (b6V rfl rfl rfl func323 kR kR kR kR) ?_;refine aI (b2O rfl rfl b3m underlying275 kR (yX.at 0 rfl) kR) ?_;refine yU 4 ?_;refine Ej.PU rfl rfl ?_;exact rT
theorem b0B b v I:yY aA 245 [ptr b 0] I [(b,yV 277 [ptr b 0,v])] (fun e A H'=>e= .returned (.tuple #[])∧H'=[(b,yV 277 [ptr b 0,v])]):=by
 refine zN func245 fun w0 _=>?_;refine yU 17 ?_;refine aI (b9S rfl rfl rfl underlying275 kR) ?_;refine yU 4 ?_;refine Ej.PU rfl rfl ?_;exact rT
theorem a4J b (p:Bool) v I:yY aA 245 [ptr b 0] I [(b,yV 277 [if p then ptr b 0 else .pointer none,v])] (fun e A H'=>e= .returned (.tuple #[])∧H'=[(b,yV 277 [ptr b 0,v])]):=by
 cases p
 ·exact a8B b v I
 exact b0B b v I
theorem a5t b l c p g (O:AL 0 1 l.length (DJ l) g)(Z:l.length≤1000000000000) I:
 yY aA 194 [ptr b 0,u8 c] I (KY b l p g) (fun e I' H'=>e= .returned .nilIface∧∃A,AL 0 1 (l++[c]).length (DJ (l++[c])) A∧H'=KY b (l++[c]) true A):=by
 refine zN func194 fun w0 _=>?_;refine yU 8 ?_;refine bQ aQ ?_;refine zX (a4J b p _ _) ?_;intro _ _ _ _ G;obtain⟨M,rfl⟩:=G;cases M;refine yU 11 ?_;intro _ _;refine aJ rfl (GX 0 (sQ _) (by':=0) [_,_] rfl rfl rfl rfl rfl KE (.inr ⟨_,KE⟩) kR tS5 tZ5 rfl O rfl (bU (yX.at 0 rfl) rfl rfl rfl) oM ?_);intro Q N;refine yU 11 ?_;refine aT (aS (aU dK)) ?_;refine zM ?_;exact⟨rfl,Q,by simpa[DJ]using N,by simp[KY,DJ]⟩
theorem b0h b l s p g (O:AL 0 1 l.length (DJ l) g)(Z:l.length≤1000000000000)(hs:s.length≤1000000000000) I:
 yY aA 180 [ptr b 0,str s] I (KY b l p g) (fun e I' H'=>e= .returned (.tuple #[i64 s.length,.nilIface])∧∃A,AL 0 1 (l++s).length (DJ (l++s)) A∧H'=KY b (l++s) true A):=by
 refine zN func180 fun w0 _=>?_;refine yU 9 ?_;refine bQ aQ ?_;refine zX (a4J b p _ _) ?_;intro _ _ _ _ G;obtain⟨M,rfl⟩:=G;cases M;refine yU 10 ?_;refine aJ rfl (GX 0 (sQ _) (by':=0) [_] rfl rfl rfl rfl rfl KE (.inl AV) kR tS5 tZ5 rfl O rfl Src.str oM ?_);intro Q N;refine yU 14 ?_;refine aT (aU dK) ?_;refine zM ?_;exact⟨rfl,Q,by simpa[DJ]using N,by simp[KY,DJ]⟩
theorem b9d b x I:yY aA 182 [ptr b 0] I [(b,yV 277 [x,.slice none 0 0])] (fun e A H'=>e= .returned (str [])∧∃y z,H'=[(b,yV 277 [y,z])]):=by
 refine zN func182 fun w0 _=>?_;refine yU 6 ?_;refine bV [0] [] 12 kR ?_;refine yU 4 ?_;refine bK 4 rfl (a9k rfl rfl) ?_;refine yU 5 ?_;refine qq2 10 rfl (CU (a4H rfl rfl rfl) ?_);refine yU 5 ?_;refine aT (aU dR) ?_;refine zM ?_;exact⟨rfl,_,_,rfl⟩
theorem b6d b gb c x l sp (h0:l≠[])(G:l.length≤1000000000000)(A:c≠0) I:yY aA 182 [ptr b 0] I [(b,yV 277 [x,.slice (some ⟨gb,0,none⟩) l.length c]),(gb,yV 5 (DJ l++sp))] (fun e M H'=>e= .returned (str l)∧∃y z,H'=[(b,yV 277 [y,z])]):=by
 refine zN func182 fun w0 _=>?_;refine yU 6 ?_;refine bV [0] [] 12 kR ?_;refine yU 4 ?_;refine bK 4 rfl (b5q rfl rfl A) ?_;refine yU 5 ?_;refine qq2 10 rfl (a8S 1 l rfl rfl rfl rfl rfl underlying344 kR rfl h0 oM (aN bG) ?_);refine yU 5 ?_;refine aT (aU (aS dR)) ?_;refine zM ?_;exact⟨rfl,_,_,rfl⟩
theorem a5s b l p g (G:AL 0 1 l.length (DJ l) g)(h0:l=[]→g=none)(O:l.length≤1000000000000) I:yY aA 182 [ptr b 0] I (KY b l p g) (fun e Q H'=>e= .returned (str l)∧∃y z,H'=[(b,yV 277 [y,z])]):=by
 cases g with
 |none=>
  have:l=[]:=wR.1 G.1;subst this;exact b9d b _ I
 |some q=>
  obtain⟨gb,c,sp⟩:=q;have A:l≠[]:=fun h=>by cases h0 h
  have M:=G.2.1;have N:=G.2.2;have:0<l.length:=wK.2 A;exact b6d b gb c _ l sp A O (by rw[M]at N;omega) I
theorem c8c b x I:yY aA 181 [ptr b 0] I [(b,yV 277 [x,.slice none 0 0])] (fun e A H'=>e= .returned (i64 0)∧H'=[(b,yV 277 [x,.slice none 0 0])]):=by
 refine zN func181 fun w0 _=>?_;refine zM ?_;exact rT
theorem c5B b x p n c I:yY aA 181 [ptr b 0] I [(b,yV 277 [x,.slice p n c])] (fun e A H'=>e= .returned (i64 n)∧H'=[(b,yV 277 [x,.slice p n c])]):=by
 refine zN func181 fun w0 _=>?_;refine zM ?_;exact rT
theorem d0V b x n g {sz xs}(A:AL 0 sz n xs g) I:yY aA 181 [ptr b 0] I [(b,yV 277 [x,gV n g])] (fun e G H'=>e= .returned (i64 n)∧H'=[(b,yV 277 [x,gV n g])]):=by
 cases g with
 |none=>
  obtain rfl:n=0:=A.1;exact c8c b x I
 |some q=>exact c5B b x _ n _ I
theorem c5m b x y I:yY aA 183 [ptr b 0] I [(b,yV 277 [x,y])] (fun e A H'=>e= .returned (.tuple #[])∧H'=[(b,yV 277 [.pointer none,.slice none 0 0])]):=by
 refine zN func183 fun w0 _=>?_;refine yU 14 ?_;refine Ej.PU rfl rfl ?_;exact rT
end Go.Proofs.YtalapkjmkjmpjaaGreatDoor
end
namespace Ke
theorem a3g c:(enc c).length≤4:=by unfold enc;split<;>(try split)<;>(try split)<;>simp
theorem PL:tab.all (fun p=>decide (p.2.length≤4))=true:=by decide +kernel
theorem a3p:∀{l:List (Nat×Bs)} {c:Nat} {s:Bs},l.lookup c=some s→∃p∈l,p.2=s
 |[],_,_,h=>by cases h
 |(a,b)::r,c,s,h=>by
  rw[cO]at h
  split at h
  ·cases h;exact⟨_,.head _,rfl⟩
  obtain⟨p,h1,h2⟩:=a3p h;exact⟨p,.tail _ h1,h2⟩
theorem a3W c:(char c).length≤4:=by
 unfold char
 split
 ·exact a3g c
 split
 ·exact a3g _
 split
 ·simp
 split
 ·simp
 split
 ·rename_i s A
  obtain⟨p,h1,rfl⟩:=a3p A;exact zA (yG.1 PL p h1)
 split
 ·exact a3g _
 split
 ·exact a3g _
 split
 ·exact a3g _
 simp
theorem a8V w:wf w []=if w=[]then[]else[w]:=rfl
theorem c7t{c}(h:char c≠[32]) w r:wf w (c::r)=wf (w++char c) r:=by
 show(if char c=[32]then _ else _)=_;rw[zD h]
theorem c1N{c}(h:char c=[32]){w}(A:w≠[]) r:wf w (c::r)=w::wf [] r:=by
 show(if char c=[32]then(if w=[]then _ else _)else _)=_;rw[zF h,zD A]
theorem b8n{c}(h:char c=[32]) r:wf [] (c::r)=wf [] r:=by
 show(if char c=[32]then(if ([]:Bs)=[]then _ else _)else _)=_;rw[zF h,zF rfl]
theorem drop_at{α:Type}{l:List α}{k x r}(h:l.drop k=x::r):l[k]?=some x∧l.drop (k+1)=r:=by
 have h1:=zC List.head? h;have h2:=zC List.tail h;rw[List.head?_drop]at h1;rw[List.tail_drop]at h2;exact⟨h1,h2⟩
structure KA (s:Bs) (i k:Nat) (w:Bs):Prop where
  le:i≤s.length
  wl:w.length≤4*i
  kl:k≤(words s).length
  eq:(words s).drop k=wf w (runes (s.drop i))
theorem KA.start s:KA s 0 0 []:=⟨sQ _,sQ _,sQ _,rfl⟩
theorem KA.in{s i k w}(h:KA s i k w)(A:i<s.length)(G:char (aB ⟨s.toArray⟩ i).1≠[32]):KA s (i+(aB ⟨s.toArray⟩ i).2) k (w++char (aB ⟨s.toArray⟩ i).1):=by
 obtain⟨h1,h2⟩:=OZ s A;refine⟨h2,?_,h.kl,by rw[h.eq,a1s A,c7t G]⟩;have:=a3W (aB ⟨s.toArray⟩ i).1;have:=h.wl;rw[wV];omega
theorem KA.d1L{s i k}(h:KA s i k [])(A:i<s.length)(G:char (aB ⟨s.toArray⟩ i).1=[32]):KA s (i+(aB ⟨s.toArray⟩ i).2) k []:=by
 obtain⟨h1,h2⟩:=OZ s A;exact⟨h2,sI,h.kl,by rw[h.eq,a1s A,b8n G]⟩
theorem KA.out{s i k w}(h:KA s i k w)(A:i<s.length)(N:char (aB ⟨s.toArray⟩ i).1=[32])(O:w≠[]):(words s)[k]?=some w∧KA s (i+(aB ⟨s.toArray⟩ i).2) (k+1) []:=by
 obtain⟨h1,h2⟩:=OZ s A;have G:=h.eq;rw[a1s A,c1N N O]at G;obtain⟨M,Q⟩:=drop_at G;exact⟨M,h2,sI,(xC.1 M).1,Q⟩
theorem KA.last{s i k w}(h:KA s i k w)(O:¬i<s.length)(M:w≠[]):(words s)[k]?=some w∧k+1=(words s).length:=by
 have A:=h.eq;rw[a0f oM,a8V,zD M]at A;obtain⟨G,N⟩:=drop_at A;have:=zC List.length N;have:=(xC.1 G).1;simp at *;exact⟨G,oM⟩
theorem KA.PU{s i k}(h:KA s i k [])(G:¬i<s.length):k=(words s).length:=by
 have A:=h.eq;have:=h.kl;rw[a0f oM,a8V,zF rfl]at A;have:=zC List.length A;simp at this;omega
def total:List Bs→Nat
 |[]=>0
 |a::r=>a.length+total r
theorem a4T:∀(r:List Nat) (w:Bs),(wf w r).length≤r.length+1∧total (wf w r)≤w.length+4*r.length
 |[],w=>by
  unfold wf
  split
  ·exact⟨sI,by simp[total]⟩
  exact⟨sI,by simp[total]⟩
 |c::r,w=>by
  unfold wf;have h0:=a4T r []
  split
  ·split
   ·simp only[wU,wL]at *;omega
   simp only[wU,wL,total]at *;omega
  have h1:=a4T r (w++char c);have h2:=a3W c;simp only[wU,wV]at *;omega
theorem WE:∀l:List Bs,(join l).length≤total l+l.length
 |[]=>by simp[join]
 |[a]=>by simp[join,total]
 |a::b::r=>by
  have:=WE (b::r);simp only[join,total,wV,wU,wL]at *;omega
theorem NU s:(words s).length≤s.length+1∧(join (words s)).length≤5*s.length+1:=by
 have h1:=a4T (runes s) [];have h2:=WE (words s);have h3:=a0t s.length s;unfold words at *;unfold runes at *;simp only[wL]at h1;omega
theorem NY s:∀w∈words s,w.length≤4*s.length:=by
 have h:∀(l:List Bs),∀w∈l,w.length≤total l:=by
  intro l
  induction l with
  |nil=>intro w A;cases A
  |cons a r G=>
   intro w A;rcases vX.1 A with rfl|A
   ·simp[total]
   have:=G w A;simp only[total];omega
 intro w A;have h1:=(a4T (runes s) []).2;have h3:=a0t s.length s;have M:=h _ w A;unfold words runes at *;simp only[wL]at h1;omega
theorem b4o:∀l:List Bs,eP l [32]=join l
 |[]=>rfl
 |[a]=>Go.Lib.join_one a [32]
 |a::b::r=>by
  have h:=b4o (b::r);rw[Go.Lib.join_cons]at h ⊢;show a++dZ [32] (b::r)=a++[32]++join (b::r);rw[←h];simp[dZ]
def a2D:Bs:=[48,49,50,51,52,53,54,55,56,57]
theorem a8Z c:a2D.contains c=digit c:=by
 have h:∀n<256,a2D.contains (aX n)=digit (aX n):=by decide +kernel
 have:=h c.toNat c.toNat_lt
 rwa [UInt8.ofNat_toNat]at this
theorem a3v{p c}:∀{l:Bs},c∈l→p c=false→c∈l.dropWhile p
 |[],h,_=>by cases h
 |d::r,h,hp=>by
  rw[dL]
  split
  ·rename_i A
   rcases vX.1 h with rfl|h
   ·rw[hp]at A;cases A
   exact a3v h hp
  exact h
theorem b4J{p}:∀{l:Bs},(∀c∈l,p c=true)→l.dropWhile p=[]
 |[],_=>rfl
 |d::r,h=>by rw[List.dropWhile_cons_of_pos (h d (.head _))];exact b4J fun c A=>h c (.tail _ A)
theorem a6Z s:(dQ s a2D == [])=digits s:=by
 unfold dQ Go.Lib.trimLeftS Go.Lib.trimRightS digits;cases hd:s.all digit with
 |true=>
  have h:∀c∈s.reverse,a2D.contains c=true:=fun c A=>by rw[a8Z];exact yG.1 hd c (dB.1 A)
  rw[b4J h];rfl
 |false=>
  obtain⟨c,A,G⟩:∃c∈s,digit c=false:=by
   have:=List.all_eq_false.1 hd;obtain⟨c,A,G⟩:=this;exact⟨c,A,by simpa using G⟩
  have h1:a2D.contains c=false:=by rw[a8Z];exact G
  have h2:=a3v (p:=(a2D.contains ·)) (dB.2 (a3v (p:=(a2D.contains ·)) (dB.2 A) h1)) h1;rw[beq_eq_false_iff_ne];intro M;rw[M]at h2;cases h2
theorem dropLast_take(w:Bs):w.take (w.length-1)=w.dropLast:=by rw[List.dropLast_eq_take]
theorem b2F w:(strip w).length≤w.length+1:=by
 unfold strip;have h:∀(l:Bs) (p:UInt8→Bool),(l.dropWhile p).length≤l.length:=by
  intro l p
  induction l with
  |nil=>simp
  |cons a r A=>rw[dL];split<;>simp only[wU]<;>omega
 have:=h w.dropLast (· == 48);rw[wV,wS];rw[List.length_dropLast]at this;omega
theorem b3y w:(KF w).length≤w.length+3:=by
 have h:=b2F w;unfold KF
 split
 ·unfold number;simp only[wV,wU,wL];omega
 omega
theorem a4x s:(join ((words s).map KF)).length≤8*s.length+4:=by
 have h1:=a4T (runes s) [];have h3:=a0t s.length s;have h2:=WE ((words s).map KF);have A:∀l:List Bs,total (l.map KF)≤total l+3*l.length:=by
  intro l
  induction l with
  |nil=>simp[total]
  |cons a r G=>
   have:=b3y a;simp only[wF,total,wU];omega
 have M:=A (words s);rw[wO]at h2;unfold words runes at *;simp only[wL]at h1;omega
end Ke
section
namespace Go.Proofs.YtalapkjmkjmpjaaGreatDoor
open Go Go.Sx
theorem b7T b l p g (A:AL 0 1 l.length (DJ l) g) I:yY aA 181 [ptr b 0] I (KY b l p g) (fun e G H'=>e= .returned (i64 l.length)∧H'=KY b l p g):=
 (yY.frame (gH 5 (DJ l) g) (d0V b _ l.length g A I)).mono fun _ _ _ _ ⟨H1,h1,h2,h3⟩=>⟨h2,by rw[h1,h3];rfl⟩
theorem b1o b x y R I:yY aA 183 [ptr b 0] I ((b,yV 277 [x,y])::R) (fun e A H'=>e= .returned (.tuple #[])∧H'=KY b [] false none):=
 (yY.frame R (c5m b x y I)).drop fun _ _ _ ⟨H1,h1,h2,h3⟩=>⟨_,by rw[h1,h3];exact List.sublist_append_left _ _,h2,rfl⟩
structure WSt where
  i:Nat
  w:List UInt8
  p:Bool
  g:Gs
  k:Nat
  I:Heap
  H:HL
theorem a5O sb s (hs:s.length≤1000000000) I (A:I sb=some (yV 9 [str s])):Gen aA 177 [] [ptr sb 0] I ((aY s).map fun w=>[str w]):=by
 refine⟨aV eH dE rfl,fun l Y Z G ai H a6=>?_⟩;refine zN eH fun w0 _=>?_;refine NG (b8Z _) ?_;intro _ I3 _ ac au av;have A:=ac _ _ A;obtain⟨tb,h,rfl⟩:=av;cases h;have a6:=G _ _ _ _ ac a6;refine dD (au _ (.head _)) (fun _ ad M=>?_);have A:=ad _ _ A;have a6:=G _ _ _ _ ad a6;refine yU 6 ?_;intro b7 _;refine yU 6 ?_;refine aJ rfl (OJ rfl rfl rfl rfl AV ?_);intro b8 _;refine yU 3 ?_;refine dH (ι:=WSt) (fun j=>Ke.KA s j.i j.k j.w∧AL 0 1 j.w.length (DJ j.w) j.g∧(Tab j.I tb∧j.I sb=some (yV 9 [str s]))∧Y j.k j.I j.H) (fun j=>s.length-j.i) (fun j=>[(0,.func (.yield l) #[] #[]),(3,.map (some tb)),(4,ptr b7 0),(10,ptr b8 0)]) (fun j=>j.I) (fun j=>(b8,.stringIter ⟨s.toArray⟩ j.i)::(KY b7 j.w j.p j.g++j.H)) ⟨0,[],false,none,0,_,H⟩ ⟨Ke.KA.start s,⟨rfl,rfl⟩,⟨M,A⟩,a6⟩ rT rfl rfl ?_;rintro⟨i,w,p,g,k,I,H⟩ ⟨hw,hg,⟨M,A⟩,N⟩;dsimp only at hw hg M A N ⊢;have az:=hw.wl;have b0:=hw.le;rcases tC i s.length with hp|hp
 ·have hd:=dY s hp;have aw:=Ke.decode_le s i;refine yU 2 ?_;refine aJ rfl (ZA 0 rfl rfl rfl rfl rfl (by rw[size_mk];omega) bG ?_);refine zO (c9A _ tb aw _ M) ?_;refine yZ ?_ ?_<;>intro a7 ag
  ·have hc:aH (aB ⟨s.toArray⟩ i).1≠[32]:=bne_iff_ne.1 a7;refine yU 3 ?_;refine bC (H':=KY _ _ _ _++(_::_)) uP ?_;refine aJ rfl (zU (H1:=KY _ _ _ _) (R:=_::_) rfl rfl rfl rfl rfl (b0h _ w (aH (aB ⟨s.toArray⟩ i).1) p g hg oM (by have:=Ke.a3W (aB ⟨s.toArray⟩ i).1;omega) _) ?_ (fun _ _ _ _ h=>by cases h.1) (fun _ _ h=>by cases h.1));intro _ _ _ a0 al;have A:=a0 _ _ A;have M:=M.mono a0;obtain⟨h,g2,ax,rfl⟩:=al;cases h;have N:=G _ _ _ _ a0 N;refine bC (H':=_::(_++_)) uP.symm ?_;refine yU 5 ?_;refine aW ⟨i+(aB ⟨s.toArray⟩ i).2,w++aH (aB ⟨s.toArray⟩ i).1,true,g2,k,_,H⟩ ⟨hw.in hp hc,ax,⟨M,A⟩,N⟩ dO rT rfl rfl
  have hc:aH (aB ⟨s.toArray⟩ i).1=[32]:=by have h:=a7;simpa using h
  refine yU 5 ?_;refine bC (H':=KY _ _ _ _++(_::_)) uP ?_;refine aJ rfl (zU (H1:=KY _ _ _ _) (R:=_::_) rfl rfl rfl rfl rfl (b7T _ w p g hg _) ?_ (fun _ _ _ _ h=>by cases h.1) (fun _ _ h=>by cases h.1));intro _ _ _ a1 am;have A:=a1 _ _ A;have M:=M.mono a1;obtain⟨h,rfl⟩:=am;cases h;have N:=G _ _ _ _ a1 N;refine bC (H':=_::(_++_)) uP.symm ?_;refine EH ?_ ?_<;>intro O
  ·have Q:w≠[]:=fun h=>by have:=DK O;rw[h]at this;simp at this
   refine yU 1 ?_;refine bC (H':=KY _ _ _ _++(_::_)) uP ?_;refine J.XA 2 23 true _ rfl rfl rfl O (zU (H1:=KY _ _ _ _) (R:=_::_) rfl rfl rfl rfl rfl (a5s _ w p g hg (fun h=>absurd h Q) oM _) ?_ (fun _ _ _ _ h=>by cases h.1) (fun _ _ h=>by cases h.1));intro _ _ _ a2 an;have A:=a2 _ _ A;have M:=M.mono a2;obtain⟨h,y0,z0,rfl⟩:=an;cases h;have N:=G _ _ _ _ a2 N;refine bC (H':=_::(_++_)) uP.symm ?_;refine J.d0j [_,_] 2 23 true _ rfl rfl rfl O rfl rfl rfl rfl rfl (ai k [str w] (by rw[xB,(hw.out hp hc Q).1];rfl) _ H N) ?_ (fun _ _ _ h=>by rcases h with⟨h,_⟩|⟨h,_⟩<;>cases h) (fun _ _ h=>by rcases h with⟨h,_⟩|⟨h,_⟩<;>cases h);intro v3 I3 H3 a3 ae;have A:=a3 _ _ A;have M:=M.mono a3;obtain⟨_,h3,aj⟩:∃t:Bool,v3= .bool t∧((t=true∧Y (k+1) I3 H3)∨(t=false∧Z I3 H3)):=by
    rcases ae with⟨h,h2⟩|⟨h,h2⟩
    ·cases h;exact⟨true,rfl,.inl ⟨rfl,h2⟩⟩
    cases h;exact⟨false,rfl,.inr ⟨rfl,h2⟩⟩
   subst h3;refine DF ?_ ?_<;>intro a8
   ·have ay:Z I3 H3:=by
     rcases aj with⟨rfl,_⟩|⟨_,h⟩
     ·exact aF a8
     exact h
    refine yU 6 ?_;refine aT (H':=H3) (aZ _ (aZ _ (dU _))) ?_;exact Ej.a7H rfl rfl ⟨rfl,.inr ay⟩
   have af:Y (k+1) I3 H3:=by
    rcases aj with⟨_,h⟩|⟨rfl,_⟩
    ·exact h
    exact aF a8
   refine yU 3 ?_;refine bC (H':=[_]++(_::_)) uP ?_;refine aJ rfl (zU (H1:=[_]) (R:=_::_) rfl rfl rfl rfl rfl (b1o _ _ _ _ _) ?_ (fun _ _ _ _ h=>by cases h.1) (fun _ _ h=>by cases h.1));intro _ _ _ a4 ao;have A:=a4 _ _ A;have M:=M.mono a4;obtain⟨h,rfl⟩:=ao;cases h;have af:=G _ _ _ _ a4 af;refine bC (H':=_::(_++_)) uP.symm ?_;refine yU 2 ?_;refine aW ⟨i+(aB ⟨s.toArray⟩ i).2,[],false,none,k+1,_,H3⟩ ⟨(hw.out hp hc Q).2,⟨rfl,rfl⟩,⟨M,A⟩,af⟩ dO rT rfl rfl
  obtain rfl:w=[]:=wR.1 (by have:=DN O;omega);refine yU 11 ?_;refine bC (H':=KY _ _ _ _++(_::_)) uP ?_;refine aJ rfl (zU (H1:=KY _ _ _ _) (R:=_::_) rfl rfl rfl rfl rfl (b1o _ _ _ _ _) ?_ (fun _ _ _ _ h=>by cases h.1) (fun _ _ h=>by cases h.1));intro _ _ _ a5 ap;have A:=a5 _ _ A;have M:=M.mono a5;obtain⟨h,rfl⟩:=ap;cases h;have N:=G _ _ _ _ a5 N;refine bC (H':=_::(_++_)) uP.symm ?_;refine yU 2 ?_;refine aW ⟨i+(aB ⟨s.toArray⟩ i).2,[],false,none,k,_,H⟩ ⟨hw.d1L hp hc,⟨rfl,rfl⟩,⟨M,A⟩,N⟩ dO rT rfl rfl

 refine yU 2 ?_;refine aJ rfl (UC 0 rfl rfl rfl rfl rfl (by rw[size_mk];omega) ?_);refine yU 12 ?_;refine bC (H':=KY _ _ _ _++(_::_)) uP ?_;refine aJ rfl (zU (H1:=KY _ _ _ _) (R:=_::_) rfl rfl rfl rfl rfl (b7T _ w p g hg _) ?_ (fun _ _ _ _ h=>by cases h.1) (fun _ _ h=>by cases h.1));intro _ _ _ aa aq;have A:=aa _ _ A;obtain⟨h,rfl⟩:=aq;cases h;have N:=G _ _ _ _ aa N;refine bC (H':=_::(_++_)) uP.symm ?_;refine yZ ?_ ?_<;>intro a9 ah
 ·have Q:w≠[]:=fun h=>by have:=DK a9;rw[h]at this;simp at this
  refine yU 2 ?_;refine bC (H':=KY _ _ _ _++(_::_)) uP ?_;refine aJ rfl (zU (H1:=KY _ _ _ _) (R:=_::_) rfl rfl rfl rfl rfl (a5s _ w p g hg (fun h=>absurd h Q) oM _) ?_ (fun _ _ _ _ h=>by cases h.1) (fun _ _ h=>by cases h.1));intro _ _ _ ab ar;have A:=ab _ _ A;obtain⟨h,y0,z0,rfl⟩:=ar;cases h;have N:=G _ _ _ _ ab N;refine bC (H':=_::(_++_)) uP.symm ?_;refine J.yield [_,_] rfl rfl rfl rfl rfl rfl (ai k [str w] (by rw[xB,(hw.last oM Q).1];rfl) _ H N) ?_ (fun _ _ _ h=>by rcases h with⟨h,_⟩|⟨h,_⟩<;>cases h) (fun _ _ h=>by rcases h with⟨h,_⟩|⟨h,_⟩<;>cases h);intro v3 I3 H3 a3 ae;have A:=a3 _ _ A;refine yU 1 ?_;refine aT (H':=H3) (aZ _ (aZ _ (dU _))) ?_;refine Ej.PU rfl rfl ⟨rfl,?_⟩;rcases ae with⟨_,h2⟩|⟨_,h2⟩
  ·refine .inl ?_;rw[wO,←(hw.last oM Q).2];exact h2
  exact .inr h2
 obtain rfl:w=[]:=wR.1 (by have:=DN a9;omega);refine yU 1 ?_;refine aT (H':=H) (aZ _ (List.sublist_append_right _ _)) ?_;refine Ej.PU rfl rfl ⟨rfl,.inl ?_⟩;rw[wO,←hw.PU oM];exact N
end Go.Proofs.YtalapkjmkjmpjaaGreatDoor
end
section
namespace Go.Proofs.YtalapkjmkjmpjaaGreatDoor
open _root_.Go.Proofs.Tryz
open Go Go.Sx
theorem a6n l v (hl:l.length≤1000000000000)(N:(Ke.join l).length≤1000000000000) I (hv:IV 9 I l v):Pure aA 176 [v,str [32]] I (str (Ke.join l)):=by
 rcases hv with⟨rfl,rfl⟩|⟨b,c,sp,rfl,hc,hb⟩
 ·exact dP (aV func176 dE rfl) fun w _=>(Tryz.strings_Join_none none 0 ⟨#[32]⟩ w).mono fun e w' ⟨h1,h2⟩=>⟨by rw[h1];rfl,h2⟩
 refine eG (aV func176 dE rfl) fun w hw=>?_;have O:=hw.1 _ _ hb;have Q:b<w.heap.size:=by
  rcases tC b w.heap.size with Z|Z
  ·exact Z
  simp[yR Z]at O
 have G:(l.map fun x=>(⟨x.toArray⟩:ByteArray)).map (fun x=>x.data.toList)=l:=by
  rw[wE];exact(List.map_congr_left fun x _=>sI).trans (List.map_id l)
 have A:eP l [32]=Ke.join l:=Ke.b4o l;have h:=Tryz.strings_Join b 0 c (l.map fun x=>⟨x.toArray⟩) ⟨#[32]⟩ w (fun j x M=>by
  rw[xB]at M;cases N:l[j]? with
  |none=>rw[N]at M;cases M
  |some y=>
   rw[N]at M;cases M;rw[sS];exact cell_of_heap O (EL N)) Q (by simp;omega) (by simpa using hc) (by rw[G,show(⟨#[32]⟩:ByteArray).data.toList=[32] from rfl,A];omega)
 rw[G,show(⟨#[32]⟩:ByteArray).data.toList=[32] from rfl,A,wO]at h;exact h
theorem a8f s I:yY aA 103 [str s] I [] (fun e G H'=>∃b,e= .returned (.func (.func 177) #[] #[ptr b 0])∧H'=[(b,yV 9 [str s])]):=by
 refine zN func103 fun w0 _=>?_;refine yU 3 ?_;intro A _;refine zM ?_;exact⟨A,rfl,rfl⟩
theorem PV{l:List (List UInt8)}{k x}(h:l[k]?=some x):(l.take (k+1)).map str=(l.take k).map str++[str x]:=by
 obtain⟨A,G⟩:=xC.1 h;rw[tN A,G,wG];rfl
theorem b5S(ws:List (List UInt8)) f M N I (hl:ws.length≤1000000000000)(O:Gen aA f M N I (ws.map fun w=>[str w])):yY aA 309 [.slice none 0 0,.func (.func f) M.toArray N.toArray] I []
 (fun e I' H'=>∃g,AL 0 1 ws.length (ws.map str) g∧e= .returned (gV ws.length g)∧H'=gH 9 (ws.map str) g):=by
 refine yY.YZ func309 rfl dE (tJ rfl) ?_;intro w0 _;refine yU 3 ?_;intro b1 _;refine yU 10 ?_;refine Cj.rangeFunc (ps:=[7]) (H1:=[_]) (R:=[]) (ws.map fun w=>[str w]) (fun k I' H'=>k≤ws.length∧∃g,AL 0 1 k ((ws.take k).map str) g∧H'=(b1,yV 118 [gV k g])::gH 9 ((ws.take k).map str) g) (fun _ _ _=>False) rfl (a2L rfl) (seq1 _ _) rfl O (fun _ _ _ _ _ h=>h) ⟨sQ _,none,⟨rfl,rfl⟩,rfl⟩ ?_ ?_ ?_
 ·intro l r k args _ _ _ hk Z A;obtain⟨x,Q,rfl⟩:=b0p hk;obtain⟨a0,g,G,rfl⟩:=A;have a1:=(xC.1 Q).1;refine yU 3 ?_;refine Ej.asg ?_;refine yU 5 ?_;intro _ _;refine aJ rfl (GX 0 (sQ _) (by':=15) [_,_,_] rfl rfl rfl rfl rfl ED (.inr ⟨_,ED⟩) kR BD tZ9 rfl G rfl (bU (yX.at 0 rfl) rfl rfl rfl) oM ?_);intro _ a2;refine yU 3 ?_;refine dI (aK aQ) ?_;refine aT (aU (aS (aU dK))) ?_;exact dV ⟨a1,_,by rw[PV Q];exact a2,by rw[PV Q];rfl⟩
 ·intro _ _ _ Z A;rw[wO]at A;obtain⟨a0,g,G,rfl⟩:=A;rw[tY]at G;rw[tY];refine Ej.MN (Ej.seq (Cj.sr (aI (BX isAgg118 (yX.at 1 rfl)) ?_)));refine aI BI ?_;refine J.ns (Cj.ret ?_);refine Ej.a2R (.inl rfl) ?_;refine PD.mark 0 rfl bG ?_;refine PD.keep (aS (aS dK)) ?_;exact PD.YI rfl rfl ⟨g,G,rfl,yD _⟩
 exact fun _ _ _ _ _ hZ=>hZ.elim
theorem b8M(ws:List (List UInt8)) f A G I (O:ws.length≤1000000000000)(M:Gen aA f A G I (ws.map fun w=>[str w])):yY aA 234 [.func (.func f) A.toArray G.toArray] I []
 (fun e Z H'=>∃g,AL 0 1 ws.length (ws.map str) g∧e= .returned (gV ws.length g)∧H'=gH 9 (ws.map str) g):=by
 refine zN func234 fun w0 _=>?_;refine zX (b5S ws f A G _ O M) ?_;intro _ _ _ _ N;obtain⟨g,Q,h,rfl⟩:=N;cases h;refine zM ?_;exact⟨g,Q,rfl,yD _⟩
theorem VR s (hs:s.length≤1000000000) I:yY aA 162 [str s] I [] (fun e I' H'=>∃v,e= .returned v∧IV 9 I' (aY s) v∧H'=[]):=by
 have a0:=Ke.NU s;refine zN func162 fun w0 _=>?_;refine NG (a8f s _) ?_;intro _ _ _ _ N O;obtain⟨Q,h,rfl⟩:=O;cases h;refine dD (N _ (.head _)) (fun I9 _ A=>?_);refine NG (b8M (aY s) _ [] [ptr Q 0] _ oM (a5O Q s hs _ A)) ?_;intro _ I9 _ G Z M;have A:=G _ _ A;obtain⟨g,hg,h,rfl⟩:=M;cases h;refine J.NV (hg.base Z) (fun _ _ hv=>?_);refine zM ?_;exact⟨_,rfl,hv,rfl⟩
end Go.Proofs.YtalapkjmkjmpjaaGreatDoor
end
section
namespace Go.Proofs.YtalapkjmkjmpjaaGreatDoor
open _root_.Go.Proofs.Tryz
open Go Go.Sx
theorem ascii_of_all{l:List UInt8}(h:l.all (fun b=>decide (b.toNat<128))=true):∀(j:Nat) b,(⟨l.toArray⟩:ByteArray).data.toList[j]?=some b→b.toNat<128:=fun j b A=>by
 rw[GK]at A;exact DK (yG.1 h b (CJ A))
theorem b7Y s (A:s.length≤1000000000000) I:Pure aA 241 [str s,str Ke.a2D] I (str (dQ s Ke.a2D)):=
 eG (aV func241 dE rfl) fun w _=>by
  have h:=Any.strings_Trim_laid Tryz.lays160 kR ⟨s.toArray⟩ ⟨Ke.a2D.toArray⟩ w (by rw[size_mk];omega) dE (ascii_of_all dE);rw[GK,GK]at h;exact h
theorem b4v s I:Pure aA 112 [str s,str [48]] I (str (s.dropWhile (· == 48))):=
 dP (aV func112 dE rfl) fun w _=>by
  have h:=Tryz.strings_TrimLeft_one ⟨s.toArray⟩ 48 dE w;rw[GK]at h;exact h
theorem b8Y{a b:Nat×Obj}{G:HL}:(G++[a,b]).Perm (a::(b::G++[])):=by
 rw[yD];exact uQ
theorem a2l{n:Nat}(h:n<256):IntKind.u8.wrap (n:Int)=((aX n).toNat:Int):=by
 rw[show(aX n).toNat=n by simp;omega];simp[IntKind.wrap,IntKind.bits,IntKind.signed];omega
theorem a0W{f}{l:List (List UInt8)}{k x}(h:l[k]?=some x):((l.take (k+1)).map f).map str=((l.take k).map f).map str++[str (f x)]:=by
 obtain⟨A,G⟩:=xC.1 h;rw[tN A,G,wG,wG];rfl
theorem a0d s (A:s.length≤1000000000000) I:Pure aA 172 [str s] I (.bool (eF s)):=by
 refine zN func172 fun w0 _=>?_;refine zO (b7Y s A _) ?_;refine zM ?_;exact⟨zC (fun b=>aC (.bool b)) (Ke.a6Z s),rfl,rfl⟩
theorem WU s skip (hs:s.length≤100000000) I:Pure aA 160 [str s,i64 skip] I (str (Ke.GL s skip)):=by
 refine yY.toPure ?_;have a9:(bD s skip).length≤s.length:=by unfold bD;simp
 have aa:=Ke.NU (bD s skip);have ab:=Ke.a4x (bD s skip);refine yY.YZ func160 rfl dE (tJ rfl) ?_;intro w0 _;refine yU 9 ?_;refine aI (IE rfl rfl rfl) ?_;refine yU 2 ?_;refine aI (LJ rfl rfl rfl) ?_;refine bJ 13 (i64 (((min (max skip 0) (s.length:Int)).toNat:Nat):Int)) rfl (zC i64 oM) ?_;refine aI (AO (p:=(min (max skip 0) (s.length:Int)).toNat) (q:=s.length) rfl rfl AV ⟨_,rfl⟩ rfl oM oM) ?_;refine bJ 14 (str (bD s skip)) rfl (by rw[tY];rfl) ?_;refine yU 6 ?_;intro b1 _;refine NG (a8f (bD s skip) _) ?_;intro _ _ _ _ a5 a6;obtain⟨sb,h,rfl⟩:=a6;cases h;refine dD (a5 _ (.head _)) (fun _ _ A=>?_);refine yU 3 ?_;refine Cj.rangeFunc (ps:=[17]) (H1:=[_]) (R:=[]) ((aY (bD s skip)).map fun w=>[str w]) (fun k _ H'=>k≤(aY (bD s skip)).length∧∃g,AL 0 1 k ((((aY (bD s skip)).take k).map bI).map str) g∧H'=(b1,yV 118 [gV k g])::gH 9 ((((aY (bD s skip)).take k).map bI).map str) g) (fun _ _ _=>False) rfl (a2L rfl) (seq1 _ _) rfl (a5O sb _ oM _ A) (fun _ _ _ _ _ h=>h) ⟨sQ _,none,⟨rfl,rfl⟩,rfl⟩ ?_ ?_ ?_
 ·intro l r k args _ _ _ hk N hY;have A:=N _ _ A;obtain⟨x,M,rfl⟩:=b0p hk;obtain⟨a7,g,O,rfl⟩:=hY;have a0:=(xC.1 M).1;have a1:=CJ M;have ac:=Ke.NY _ x a1;have ad:0<x.length:=wK.2 (Ke.ZH _ _ x a1);have a8:=Ke.b2F x;refine yU 3 ?_;refine Ej.asg ?_;refine zO (a0d x oM _) ?_;refine DF ?_ ?_<;>intro Q
  ·have Z:eF x=true:=Q;have G:bI x=Ke.number x:=by unfold bI;rw[Z];rfl
   refine yU 1 ?_;refine bV [] [] 13 kR ?_;refine yU 4 ?_;refine bY 23 (i64 ((x.length-1:Nat):Int)) rfl (zC i64 oM) ?_;refine bK 4 rfl (AO (p:=0) (q:=x.length-1) rfl rfl AV rfl ⟨_,rfl⟩ oM oM) ?_;refine bY 24 (str (x.take (x.length-1))) rfl (by rw[xU]) ?_;refine yU 4 ?_;refine bY 29 (i64 ((x.length-1:Nat):Int)) rfl (zC i64 oM) ?_;refine bK 10 rfl (AO (p:=x.length-1) (q:=x.length) rfl rfl AV ⟨_,rfl⟩ rfl oM oM) ?_;refine bY 30 (str (x.drop (x.length-1))) rfl (by rw[tY]) ?_;refine zO (b4v (x.take (x.length-1)) _) ?_;refine yU 1 ?_;refine bK 11 rfl (BQ rfl rfl rfl (by rw[Ke.dropLast_take];have:=a8;unfold aP at this;rw[wV]at this;omega)) ?_;refine bY 31 (str (aP x)) rfl (by rw[Ke.dropLast_take];rfl) ?_;refine yU 7 ?_;refine aI (LJ rfl rfl rfl) ?_;refine bJ 34 (i64 ((min (aP x).length 99:Nat):Int)) rfl (zC i64 (by split<;>omega)) ?_;refine yU 5 ?_;refine aI (a5i rfl rfl rfl dE (IJ (by show _≤((min (aP x).length 99 / 10:Nat):Int)∧((min (aP x).length 99 / 10:Nat):Int)≤_;omega))) ?_;refine bJ 36 (i64 ((min (aP x).length 99 / 10:Nat):Int)) rfl rfl ?_;refine yU 1 ?_;refine bJ 37 (i64 ((48+min (aP x).length 99 / 10:Nat):Int)) rfl (zC i64 oM) ?_;refine yU 1 ?_;refine bJ 38 (u8 (aX (48+min (aP x).length 99 / 10))) rfl (zC (aG .u8) (a2l oM)) ?_;refine yU 2 ?_;refine bJ 40 (i64 ((min (aP x).length 99 % 10:Nat):Int)) rfl rfl ?_;refine yU 1 ?_;refine bJ 41 (i64 ((48+min (aP x).length 99 % 10:Nat):Int)) rfl (zC i64 oM) ?_;refine yU 1 ?_;refine bJ 42 (u8 (aX (48+min (aP x).length 99 % 10))) rfl (zC (aG .u8) (a2l oM)) ?_;refine yU 1 ?_;intro _ _;refine aI (OE [aX (48+min (aP x).length 99 / 10),aX (48+min (aP x).length 99 % 10)] rfl rfl rfl KE AV tU5 (yX.at 0 rfl) rfl) ?_;refine yU 1 ?_;refine aI (BQ rfl rfl rfl (by first|omega|(simp only[wV];omega)|(simp;omega))) ?_;refine bJ 46 (str (Ke.number x)) rfl rfl ?_;refine yU 7 ?_;intro _ _;refine aJ rfl (GX 0 (sQ _) (by':=15) [_,_,_,_] rfl rfl rfl rfl rfl ED (.inr ⟨_,ED⟩) kR BD tZ9 rfl O rfl (bU (yX.at 0 rfl) rfl rfl rfl) oM ?_);intro _ a2;refine yU 3 ?_;refine dI (aK (aK aQ)) ?_;refine aT (aU (aS (aS (aU dK)))) ?_;exact dV ⟨a0,_,by rw[a0W M,G];exact a2,by rw[a0W M,G];rfl⟩
  have Z:eF x=false:=Q;have G:bI x=x:=by unfold bI;rw[Z];rfl
  refine yU 6 ?_;intro _ _;refine aJ rfl (GX 0 (sQ _) (by':=15) [_,_,_] rfl rfl rfl rfl rfl ED (.inr ⟨_,ED⟩) kR BD tZ9 rfl O rfl (bU (yX.at 0 rfl) rfl rfl rfl) oM ?_);intro _ a3;refine yU 3 ?_;refine dI (aK aQ) ?_;refine aT (aU (aS (aU dK))) ?_;exact dV ⟨a0,_,by rw[a0W M,G];exact a3,by rw[a0W M,G];rfl⟩
 ·intro _ _ _ N hY;have A:=N _ _ A;rw[wO]at hY;obtain⟨a7,g,O,rfl⟩:=hY;rw[tY]at O;rw[show(aY (bD s skip)).take (aY (bD s skip)).length=aY (bD s skip) from tY];refine yU 3 ?_;refine Cj.a6e rfl (fun a4=>?_);refine Cj.perm (H':=gH _ _ _++[_,_]) b8Y ?_;refine Cj.NV (O.base (fun p hp=>a4 p (.tail _ (.tail _ (vZ _ hp))))) (fun _ _ hv=>?_);refine zO (a6n ((aY (bD s skip)).map bI) _ (by rw[wO];omega) oM _ hv) ?_;refine yU 4 ?_;refine Ej.a2R (.inl rfl) ?_;refine PD.mark 0 rfl bG ?_;refine PD.keep (List.nil_sublist _) ?_;exact PD.YI rfl rfl rT
 exact fun _ _ _ _ _ hZ=>hZ.elim
