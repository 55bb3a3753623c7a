/-
  Own texts on the laws of the seat, joined: the logic, and contracts of functions. Conditions: none.
-/
import Derived.Test.YtalapkjmkjmpjaaGreatDoorNmK
import Derived.Test.YtalapkjmkjmpjaaGreatDoorPK5
import Derived.Lib.SlicesCompact
import Derived.Deep.Draws
set_option linter.all false
set_option maxRecDepth 100000
set_option maxHeartbeats 40000000
open Ke renaming norm -> aA,okb -> aF,digits -> aN,WC -> aT,check -> aW,a3E -> aX,a3U -> aZ,val -> bD,a1m -> bF,join -> dB,rep -> dI,b3o -> dN,words -> dP,digit -> eH
open Go.Proofs.Tryz renaming prog -> aB,ntmps44 -> eX
open Go.Utf8 renaming encode -> aC,decode -> aS,valid -> bY
open Go.Sx.J renaming z -> aG,ez -> aP,op -> aY
open Go.Sx.Keeps renaming d -> aH,k -> bG,r -> bI
open Bool renaming noConfusion -> aI,false_or -> eG
open List renaming nil_sublist -> aJ,cons_lt_cons_iff -> aU,takeWhile_prefix -> bP,takeWhile_cons_of_pos -> bU,all_takeWhile -> dH,replicate -> dW,lt_trans -> eF
open Go.Lib renaming compact -> aK,indexByte -> aO,compareInt -> bJ,compareBytes -> dQ,validRune -> dZ
open Option renaming toList -> aQ
open Go.Sx.Ej renaming round -> aV,keep -> bC,seq -> dJ,a2R -> dY
open Go.Sx.Enters renaming of -> bH
open UInt8 renaming ofNat -> bK,ofNat_toNat -> bV,not_lt -> eY
open Go.Sx.Cj renaming loop -> bM,region -> cZ,EX -> dF,cond -> dK,ret -> dU,perm -> dV,keep -> dX
open Go.Sx.Pure renaming of_same -> bQ
open Nat renaming mul_le_mul -> bT
open List.Pairwise renaming nil -> bW
open Go.Sx.yY renaming toPure -> bZ
open Go.Sx.BL renaming z -> cO
open Go.Sort renaming grow -> dA
open Eq renaming trans -> dD,symm -> dL
open Go.Value renaming int -> dG
open Go.Sx.yX renaming YR -> dM
open Go.Ending renaming returned -> dR
open Go.Sx.JA renaming tk -> dS
open Go.Sx.PD renaming keep -> eP,YI -> eU
open Go.World renaming cell? -> fA
section
namespace Go.Proofs.YtalapkjmkjmpjaaGreatDoor
open _root_.Go.Proofs.Tryz
open Go Go.Sx
theorem b5f r (h:dZ r=true):bY r=true:=by
 unfold dZ at h;unfold bY;simp at h ⊢;omega
theorem b4P r I:∃b,Pure aB 264 [.int .i32 r] I (.bool b)∧(b=true→bY r=true):=
 ⟨_,bQ (bH func264 dE rfl) fun w _=>Tryz.utf8_ValidRune r w,b5f r⟩
theorem a1I l c I:Pure aB 175 [str l,u8 c] I (i64 (aO l c)):=
 bQ (bH func175 dE rfl) fun w _=>by
  have h:=Tryz.strings_IndexByte ⟨l.toArray⟩ c.toNat w;have e:((c.toNat:Int)).toNat.toUInt8=c:=sI;rw[GK,e]at h;exact h
theorem indexByte_none{l c}(h:∀d∈l,d.toNat<128)(N:128≤c.toNat):aO l c= -1:=by
 induction l with
 |nil=>rfl
 |cons d l A=>
  have O:=h d (.head _);have G:(d == c)=false:=by rw[beq_eq_false_iff_ne];intro e;subst e;omega
  rw[aO,G,A fun x M=>h x (.tail _ M)];rfl
theorem c6k{r}(M:bY r=true)(G:128≤r):2≤(aC r).data.toList.length∧(aC r).data.toList.length≤4∧∃c,(aC r).data.toList[(aC r).data.toList.length-1]?=some c∧128≤c.toNat:=by
 obtain⟨h1,h2,h3⟩:=encode_facts r M G;have N:(aC r).data.toList.length=(aC r).size:=rfl;rw[N];have A:(aC r).size-1<(aC r).size:=oM;exact⟨h1,h2,_,Lib.data_getElem? (aC r) _ A,h3 A⟩
theorem a5d{l:List UInt8}{i c}(h:l[i]?=some c)(N:c.toNat<128):aS ⟨l.toArray⟩ i=(c.toNat,1):=by
 obtain⟨A,O⟩:=xC.1 h;have G:i<(⟨l.toArray⟩:ByteArray).size:=by rw[size_mk];exact A
 have M:(⟨l.toArray⟩:ByteArray)[i]'G=c:=by simp[ByteArray.getElem_eq_getElem_data,O]
 rw[decode_ascii _ _ G (by rw[M];exact N),M]
theorem b0e A (M:∀c∈A,c.toNat<128)(h4:4≤A.length)(ac:A.length≤1000000) r (a7:128≤r)(hr:r≤2147483647) I:Pure aB 191 [str A,.int .i32 r] I (i64 (-1)):=by
 refine bZ ?_;obtain⟨_,Q⟩:=b4P r I;refine zN func191 fun w0 _=>?_;refine yU 11 ?_;refine J.XA 2 163 true _ rfl rfl rfl (zH oM) (CU zS ?_);refine J.XA 2 163 true _ rfl rfl rfl (zH oM) (CU (a8P rfl rfl rfl) ?_);refine aG (MR rfl rfl (zH oM) rfl) ?_;refine yU 3 ?_;refine dK rfl (fun Z=>aI (dD (dL (zI oM)) Z)) (fun Z=>?_);refine yZ ?_ ?_<;>intro a0 a8
 ·refine yU 4 ?_;refine aY rfl (OJ rfl rfl rfl rfl AV ?_);intro b3 _;refine yU 3 ?_;refine bM (ι:=Nat) (fun i=>True) (fun i=>A.length-i) (fun i=>[(0,str A),(1,.int .i32 r),(174,str A),(175,ptr b3 0)]) (fun i=>I) (fun i=>[(b3,.stringIter ⟨A.toArray⟩ i)]) 0 trivial rT rfl rfl ?_;rintro i -;rcases tC i A.length with hp|hp
  ·obtain⟨c,G⟩:∃c,A[i]?=some c:=⟨_,AA hp⟩;have a1:=a5d G (M c (CJ G));refine yU 2 ?_;refine aY rfl (ZA 0 rfl rfl rfl rfl rfl (by rw[size_mk];omega) cO ?_);refine yU 22 ?_;refine dK rfl (fun a4=>aI (dD (dL (beq_eq_false_iff_ne.2 (by rw[a1];dsimp only;have:=M c (CJ G);omega))) a4)) (fun a4=>?_);refine yU 2 ?_;refine aV (i+(aS ⟨A.toArray⟩ i).2) trivial (by rw[a1];dsimp only;omega) rT rfl rfl

  refine yU 2 ?_;refine aY rfl (UC 0 rfl rfl rfl rfl rfl (by rw[size_mk];omega) ?_);refine zV ?_;exact rT
 refine zO (Q.1) ?_;refine DF ?_ ?_<;>intro a5
 ·refine zM ?_;exact rT
 have aa:bY r=true:=Q.2 (by simpa using a5);obtain⟨_,_,c2,N,a0⟩:=c6k aa a7;obtain⟨c1,O⟩:∃c,A[(aC r).data.toList.length-1]?=some c:=⟨_,AA oM⟩;have Z:=M c1 (CJ O);have ab:(c1.toNat:Int)≠c2.toNat:=oM;have a9:∀d∈(A.take A.length).drop ((aC r).data.toList.length-1+1),d.toNat<128:=fun d hd=>M d (vO (vP hd));refine Cj.scope ?_;refine yU 28 ?_;refine bM (ι:=Unit) (fun i=>True) (fun i=>0) (fun i=>[(0,str A),(7,str (aC r).data.toList),(8,i64 ((aC r).data.toList.length-1:Int)),(9,i64 ((aC r).data.toList.length-1:Int))]) (fun i=>I) (fun i=>[]) () trivial rT rfl rfl ?_;rintro _ -;refine yU 9 ?_;refine dK rfl (fun a6=>?_) (fun a6=>aI (dD (dL (zH oM)) a6));refine yU 3 ?_;refine Cj.scope ?_;refine yU 2 ?_;refine dF [] [] 7 kR ?_;refine yU 2 ?_;refine JA.zt 2 rfl (FB rfl rfl rfl AV oM (by rw[show((((aC r).data.toList.length:Int)-1).toNat)=(aC r).data.toList.length-1 by omega];exact O)) ?_;refine yU 2 ?_;refine JA.zt 5 rfl (FB rfl rfl rfl AV oM (by rw[show((((aC r).data.toList.length:Int)-1).toNat)=(aC r).data.toList.length-1 by omega];exact N)) ?_;refine yU 3 ?_;refine dK rfl (fun a2=>?_) (fun a2=>aI (dD (dL (bne_iff_ne.2 ab)) a2));refine yU 1 ?_;refine dF [] [] 9 kR ?_;refine yU 3 ?_;refine JA.ez 36 (i64 ((aC r).data.toList.length-1+1:Nat)) rfl (by congr 1;omega) ?_;refine JA.zt 3 rfl (AO (p:=(aC r).data.toList.length-1+1) (q:=A.length) rfl rfl AV ⟨_,rfl⟩ rfl oM oM) ?_;refine yU 2 ?_;refine JA.zt 6 rfl (FB rfl rfl rfl AV oM (by rw[show((((aC r).data.toList.length:Int)-1).toNat)=(aC r).data.toList.length-1 by omega];exact N)) ?_;refine zO (a1I _ _ _) ?_;refine yU 1 ?_;refine JA.ez 41 (i64 (-1)) rfl (by rw[indexByte_none a9 a0]) ?_;refine yU 10 ?_;refine dK rfl (fun a3=>?_) (fun a3=>aI (dD (dL (zH oM)) a3));refine yU 8 ?_;refine Ej.b3p ?_;refine yU 4 ?_;refine Ej.b3p ?_;refine zM ?_;exact rT
theorem a6F A (N:∀c∈A,c.toNat<128)(O:4≤A.length)(G:A.length≤1000000) r (M:128≤r)(Q:r≤2147483647) I:Pure aB 166 [str A,.int .i32 r] I (.bool false):=by
 refine zN func166 fun w0 _=>?_;refine zO (b0e A N O G r M Q _) ?_;refine zM ?_;exact rT
def b3v:List UInt8:=[48,49,50,51,52,53,54,55,56,57,88,120,32,45]
theorem c6I c:decide (0≤aO b3v c)=aF c:=by
 have h:∀n<256,decide (0≤aO b3v (bK n))=aF (bK n):=by decide +kernel
 have:=h c.toNat c.toNat_lt
 rwa [bV]at this
def okr (r:Nat):Bool:=decide (r<128) && aF (bK r)
theorem b0l(r:Nat)(G:r≤1114111) I:Pure aB 166 [str b3v,.int .i32 (r:Int)] I (.bool (okr r)):=by
 rcases tC r 128 with h|h
 ·refine bQ (bH func166 dE rfl) fun w _=>?_;have h1:=Tryz.strings_ContainsRune_ascii ⟨b3v.toArray⟩ (r:Int) w oM oM;have e:((r:Int)).toNat.toUInt8=bK r:=rfl;rw[GK,e,c6I]at h1;have A:okr r=aF (bK r):=by simp[okr,h]
  rw[A];exact h1
 have A:okr r=false:=by simp[okr];omega
 rw[A];exact a6F b3v dE dE dE (r:Int) oM oM I
theorem c4z(r:Nat)(A:r≤1114111) I:Pure aB 165 [.int .i32 (r:Int)] I (.bool (!okr r)):=by
 refine zN func165 fun w0 _=>?_;refine zO (b0l r A _) ?_;refine zM ?_;exact rT
theorem c7B{l:List UInt8}{i c}(h:l[i]?=some c)(A:128≤c.toNat):128≤(aS ⟨l.toArray⟩ i).1:=by
 have h1:Lib.decodeL (l.drop i)=aS ⟨l.toArray⟩ i:=Lib.decodeL_drop ⟨l.toArray⟩ i;rw[←h1,drop_cons h,Lib.decodeL_N];simp only[List.getD_cons_zero];unfold Lib.decodeN;rw[zD oM]
 split
 ·split
  ·assumption
  decide
 split
 ·split
  ·rename_i h2;exact FD dE h2.1
  decide
 split
 ·split
  ·rename_i h2;exact FD dE h2.1
  decide
 decide
theorem b8f{l:List UInt8}{i c}(h:l[i]?=some c)(A:okr (aS ⟨l.toArray⟩ i).1=true):aF c=true∧(aS ⟨l.toArray⟩ i).2=1:=by
 rcases tC c.toNat 128 with G|G
 ·rw[a5d h G]at A ⊢;simp only[okr,yP,bV]at A;exact⟨A.2,rfl⟩
 have:=c7B h G;simp only[okr,yP,zG]at A;omega
theorem c6n{l:List UInt8}{i c}(h:l[i]?=some c)(G:okr (aS ⟨l.toArray⟩ i).1=false):aF c=false:=by
 rcases tC c.toNat 128 with A|A
 ·rw[a5d h A]at G;simpa[okr,A]using G
 have h1:∀n<256,128≤n→aF (bK n)=false:=by decide +kernel
 have:=h1 c.toNat c.toNat_lt A
 rwa [bV]at this
theorem a3l{l:List UInt8}{i c}(h:(l.take i).all aF=true)(M:l[i]?=some c)(A:aF c=true):(l.take (i+1)).all aF=true:=by
 obtain⟨G,N⟩:=xC.1 M;rw[tN G,N,List.all_append,h];simp[A]
theorem a8h{l:List UInt8}:∀{i:Nat} {c:UInt8},(l.take i).all aF=true→l[i]?=some c→aF c=false→l.takeWhile aF=l.take i:=by
 induction l with
 |nil=>intro i c _ h;simp at h
 |cons a r M=>
  intro i c h G A;cases i with
  |zero=>simp at G;subst G;rw[List.takeWhile_cons_of_neg (by simp[A])];rfl
  |succ i=>
   simp only[tV,yH,yP]at h;rw[bU h.1,M h.2 (by simpa using G) A,tV]
theorem a2O{l:List UInt8}(h:l.all aF=true):l.takeWhile aF=l:=by
 induction l with
 |nil=>rfl
 |cons a r A=>
  rw[yH,yP]at h;rw[bU h.1,A h.2]
def c1k (s:List UInt8) (n:Int):Prop:=(n= -1∧s.takeWhile aF=s)∨∃k:Nat,n=k∧k≤s.length∧s.takeWhile aF=s.take k
theorem b3Q s I:yY aB 235 [str s,.func (.func 165) #[] #[],.bool true] I [] (fun e I' H'=>∃n,e= .returned (i64 n)∧c1k s n∧H'=[]):=by
 refine zN func235 fun w0 _=>?_;refine yU 9 ?_;refine aY rfl (OJ rfl rfl rfl rfl AV ?_);intro Q _;refine yU 3 ?_;refine bM (ι:=Nat) (fun i=>i≤s.length∧(s.take i).all aF=true) (fun i=>s.length-i) (fun i=>[(1,.func (.func 165) #[] #[]),(2,.bool true),(10,ptr Q 0)]) (fun i=>I) (fun i=>[(Q,.stringIter ⟨s.toArray⟩ i)]) 0 ⟨sQ _,rfl⟩ rT rfl rfl ?_;rintro i ⟨hi,G⟩;rcases tC i s.length with O|O
 ·have hd:=Ke.OZ s O;have Z:=Ke.decode_le s i;obtain⟨c,A⟩:∃c,s[i]?=some c:=⟨_,AA O⟩;refine yU 2 ?_;refine aY rfl (ZA 0 rfl rfl rfl rfl rfl (by rw[size_mk];omega) cO ?_);refine zO (c4z _ Z _) ?_;refine DF ?_ ?_<;>intro N
  ·have M:okr (aS ⟨s.toArray⟩ i).1=false:=by have h:=N;simpa using h
   refine zV ?_;exact⟨_,rfl,.inr ⟨i,rfl,hi,a8h G A (c6n A M)⟩,rfl⟩
  have M:okr (aS ⟨s.toArray⟩ i).1=true:=by have h:=N;simpa using h
  refine yU 2 ?_;refine aV (i+(aS ⟨s.toArray⟩ i).2) ⟨hd.2,by rw[(b8f A M).2];exact a3l G A (b8f A M).1⟩ oM rT rfl rfl

 refine yU 2 ?_;refine aY rfl (UC 0 rfl rfl rfl rfl rfl (by rw[size_mk];omega) ?_);refine zV ?_;exact⟨_,rfl,.inl ⟨rfl,a2O (by rw[tX oM]at G;exact G)⟩,rfl⟩
theorem b4D s I:yY aB 164 [str s,.func (.func 165) #[] #[]] I [] (fun e M H'=>∃n,e= .returned (i64 n)∧c1k s n∧H'=[]):=by
 refine zN func164 fun w0 _=>?_;refine zX (b3Q s _) ?_;intro _ _ _ _ A;obtain⟨n,h,G,rfl⟩:=A;cases h;refine zM ?_;exact⟨_,rfl,G,rfl⟩
end Go.Proofs.YtalapkjmkjmpjaaGreatDoor
end
section
namespace Go.Proofs.YtalapkjmkjmpjaaGreatDoor
open _root_.Go.Proofs.Tryz
open Go Go.Sx
theorem c0P{l sp}{k:Nat}{c}(h:l[k]?=some c):(DJ l++sp)[k]?=some (u8 c):=by
 obtain⟨A,_⟩:=xC.1 h;rw[xJ (by rw[NT];exact A),DJ,xB,h];rfl
theorem w8{x}(h:0≤x∧x≤255):IntKind.u8.wrap x=x:=by
 simp[IntKind.wrap,IntKind.bits,IntKind.signed];omega
theorem b0N:∀(l:List UInt8) (k:Nat),aZ k l≤1000*l.length
 |[],_=>by simp[aZ]
 |c::r,k=>by
  have h1:=b0N r (k+1);have h2:=c.toNat_lt;have h3:(c.toNat-48)*(1+2*(k % 2))≤255*3:=bT oM oM;simp only[aZ,wU];omega
theorem a4R{l:List UInt8}{k c}(h:l[k]?=some c):aZ 0 (l.take (k+1))=aZ 0 (l.take k)+(c.toNat-48)*(1+2*(k % 2)):=by
 obtain⟨A,G⟩:=xC.1 h;rw[tN A,G,Ke.b5E,aZ,aZ,wI,sW oM,sS,Nat.add_zero]
theorem b4Y c:bD c≤255:=by
 have h2:=c.toNat_lt;unfold bD;split<;>omega
theorem b0j:∀(l:List UInt8) (k:Nat),bF k l≤2550*l.length
 |[],_=>by simp[bF]
 |c::r,k=>by
  have h1:=b0j r (k+1);have h3:(10-k)*bD c≤10*255:=bT oM (b4Y c);simp only[bF,wU];omega
theorem a0r{l:List UInt8}{k c}(h:l[k]?=some c):bF 0 (l.take (k+1))=bF 0 (l.take k)+(10-k)*bD c:=by
 obtain⟨A,G⟩:=xC.1 h;rw[tN A,G,Ke.b4H,bF,bF,wI,sW oM,sS,Nat.add_zero]
theorem a5q{l}{k:Nat}{c}(A:aN l=true)(h:l[k]?=some c):48≤c.toNat∧c.toNat≤57:=Ke.TD.1 (yG.1 A c (CJ h))
theorem b4G s (a2:12≤s.length)(hs:s.length≤1000000)(hd:aN (s.take 12)=true) I:Pure aB 171 [str s] I (u8 (aW s)):=by
 refine bZ ?_;have a3:(s.take 12).length=12:=by rw[wI];omega
 refine zN func171 fun w0 _=>?_;refine yU 14 ?_;refine aG (AO (p:=0) (q:=12) rfl rfl AV rfl ⟨_,rfl⟩ oM oM) ?_;refine aP 7 (str (s.take 12)) rfl (by rw[xU]) ?_;refine aY rfl (XK rfl rfl rfl rfl AV KE tU5 ?_);intro O c2 Q M _ _;refine yU 5 ?_;refine bM (ι:=Nat) (fun j=>j≤(s.take 12).length) (fun j=>(s.take 12).length-j) (fun j=>[(0,str s),(3,i64 ((aZ 0 ((s.take 12).take j):Nat):Int)),(8,.slice (some ⟨O,0,none⟩) (s.take 12).length c2),(9,i64 ((s.take 12).length:Int)),(10,i64 (j:Int))]) (fun j=>I) (fun j=>[(O,.cells (DJ (s.take 12)++Q).toArray 5 (M,M+1))]) 0 (sQ _) rT rfl rfl ?_;intro j hj;have Z:=b0N ((s.take 12).take j) 0;rw[wI,sW hj]at Z;refine yZ ?_ ?_<;>intro a0 N
 ·have a1:j<(s.take 12).length:=oM;obtain⟨c,A⟩:∃c,(s.take 12)[j]?=some c:=⟨_,AA a1⟩;have hc:=a5q hd A;have hm:(c.toNat-48)*(1+2*(j % 2))≤9*3:=bT oM oM;refine zW j ?_;refine aG (DI tA5 (yX.at 0 rfl) (c0P A)) ?_;refine yU 7 ?_;refine aG (VG rfl rfl rfl (w8 oM)) ?_;refine yU 1 ?_;refine aP 18 (i64 ((c.toNat-48:Nat):Int)) rfl (zC i64 ((IJ oM).trans oM)) ?_;refine yU 2 ?_;refine aP 20 (i64 ((j % 2:Nat):Int)) rfl rfl ?_;refine yU 2 ?_;refine aP 22 (i64 ((1+2*(j % 2):Nat):Int)) rfl (zC i64 oM) ?_;refine aG (a0o rfl rfl rfl (IJ (by rw[←yI];omega))) ?_;refine aP 23 (i64 (((c.toNat-48)*(1+2*(j % 2)):Nat):Int)) rfl (zC i64 (yI _ _).symm) ?_;refine yU 9 ?_;refine aV (j+1) oM oM ⟨rfl,by rw[a4R A];exact zC (fun z=>some (dG .i64 z)) oM,rfl,rfl,rfl,trivial⟩ rfl rfl
 have G:(s.take 12).take j=s.take 12:=tX oM;refine yU 9 ?_;refine aP 27 (i64 ((aZ 0 (s.take 12) % 10:Nat):Int)) rfl (by rw[G];rfl) ?_;refine yU 1 ?_;refine aP 28 (i64 ((10-aZ 0 (s.take 12) % 10:Nat):Int)) rfl (zC i64 oM) ?_;refine yU 1 ?_;refine aP 29 (i64 (((10-aZ 0 (s.take 12) % 10) % 10:Nat):Int)) rfl rfl ?_;refine yU 1 ?_;refine aP 30 (i64 ((48+(10-aZ 0 (s.take 12) % 10) % 10:Nat):Int)) rfl (zC i64 oM) ?_;refine yU 1 ?_;refine aP 31 (u8 (aW s)) rfl (zC (dG .u8) (a2l oM)) ?_;refine yU 4 ?_;refine bC (aJ _) ?_;refine zM ?_;exact rT
theorem b2R s (a5:s.length=10)(hx:∀c∈s,eH c=true∨c=88) I:Pure aB 170 [str s] I (.bool (aX s)):=by
 refine bZ ?_;refine zN func170 fun w0 _=>?_;refine yU 14 ?_;refine aY rfl (XK rfl rfl rfl rfl AV KE tU5 ?_);intro b1 c2 a0 O _ _;refine yU 5 ?_;refine bM (ι:=Nat) (fun j=>j≤s.length) (fun j=>s.length-j) (fun j=>[(0,str s),(3,i64 ((bF 0 (s.take j):Nat):Int)),(8,.slice (some ⟨b1,0,none⟩) s.length c2),(9,i64 (s.length:Int)),(10,i64 (j:Int))]) (fun j=>I) (fun j=>[(b1,.cells (DJ s++a0).toArray 5 (O,O+1))]) 0 (sQ _) rT rfl rfl ?_;intro j hj;have a1:=b0j (s.take j) 0;rw[wI,sW hj]at a1;refine yZ ?_ ?_<;>intro a2 Q
 ·have a3:j<s.length:=oM;obtain⟨c,A⟩:∃c,s[j]?=some c:=⟨_,AA a3⟩;have hc:48≤c.toNat:=(hx c (CJ A)).elim (fun h=>(Ke.TD.1 h).1) (fun h=>by subst h;decide);have a6:=c.toNat_lt;have hm:(10-j)*bD c≤10*255:=bT oM (b4Y c);refine zW j ?_;refine aG (DI tA5 (yX.at 0 rfl) (c0P A)) ?_;refine yU 7 ?_;refine aG (VG rfl rfl rfl (w8 oM)) ?_;refine yU 1 ?_;refine aP 17 (i64 ((c.toNat-48:Nat):Int)) rfl (zC i64 ((IJ oM).trans oM)) ?_;refine yZ ?_ ?_<;>intro G Z
  ·have a4:bD c=10:=by
    have h:(c.toNat:Int)=88:=BP G;unfold bD;rw[zF (sJ.1 (by rw[show(88:UInt8).toNat=88 from rfl];omega))]
   refine yU 8 ?_;refine aP 22 (i64 ((10-j:Nat):Int)) rfl (zC i64 oM) ?_;refine yU 1 ?_;refine aP 23 (i64 ((bD c:Nat):Int)) rfl (zC i64 oM) ?_;refine aG (a0o rfl rfl rfl (IJ (by rw[←yI];omega))) ?_;refine aP 24 (i64 (((10-j)*bD c:Nat):Int)) rfl (zC i64 (yI _ _).symm) ?_;refine yU 9 ?_;refine aV (j+1) oM oM ⟨rfl,by rw[a0r A];exact zC (fun z=>some (dG .i64 z)) oM,rfl,rfl,rfl,trivial⟩ rfl rfl
  have a4:bD c=c.toNat-48:=by
   have h:¬(c.toNat:Int)=88:=CB G;unfold bD;rw[zD (fun e=>h (by subst e;rfl))]
  refine yU 6 ?_;refine aP 22 (i64 ((10-j:Nat):Int)) rfl (zC i64 oM) ?_;refine yU 1 ?_;refine aP 23 (i64 ((bD c:Nat):Int)) rfl (zC i64 oM) ?_;refine aG (a0o rfl rfl rfl (IJ (by rw[←yI];omega))) ?_;refine aP 24 (i64 (((10-j)*bD c:Nat):Int)) rfl (zC i64 (yI _ _).symm) ?_;refine yU 9 ?_;refine aV (j+1) oM oM ⟨rfl,by rw[a0r A];exact zC (fun z=>some (dG .i64 z)) oM,rfl,rfl,rfl,trivial⟩ rfl rfl
 have N:s.take j=s:=tX oM;refine yU 9 ?_;refine aP 28 (i64 ((bF 0 s % 11:Nat):Int)) rfl (by rw[N];rfl) ?_;refine EH ?_ ?_<;>intro M
 ·have hr:(bF 0 s % 11 == 0)=true:=beq_iff_eq.2 (by have h:=BP M;omega);refine yU 1 ?_;refine J.zg (AO (p:=0) (q:=9) rfl rfl AV rfl ⟨_,rfl⟩ oM oM) ?_;refine aP 32 (str (s.take 9)) rfl (by rw[xU]) ?_;refine zO (a0d (s.take 9) (by rw[wI];omega) _) ?_;refine yU 5 ?_;refine bC (aJ _) ?_;refine zM ?_;exact⟨zC (fun b=>dR (.bool b)) (by unfold aX;rw[hr];rfl),rfl⟩
 have hr:(bF 0 s % 11 == 0)=false:=beq_eq_false_iff_ne.2 (fun e=>CB M (by rw[e];rfl));refine yU 8 ?_;refine bC (aJ _) ?_;refine zM ?_;exact⟨zC (fun b=>dR (.bool b)) (by unfold aX;rw[hr];rfl),rfl⟩
theorem b9W s:∀c∈aA s,eH c=true∨c=88:=fun c A=>by
 obtain⟨d,G,rfl⟩:=vU.1 A;obtain⟨h1,h2⟩:=vW.1 G;have h3:aF d=true:=yG.1 (dH (p:=aF)) d h1;revert h2 h3;exact Ke.a3D (p:=fun d=>Ke.nb d=true→aF d=true→eH (Ke.up d)=true∨Ke.up d=88) (by decide +kernel) d
theorem b3z s:(aA s).length≤s.length:=by
 unfold aA;rw[wO];exact FD (wP _ _) (bP _).length_le
theorem b9K s (N:s.length≤1000000000) I:Pure aB 167 [str (dI (s.takeWhile aF))] I (str (aA s)):=by
 refine Pure.of_below (bH func167 dE rfl) fun w _=>?_;have A:∀c∈dI (s.takeWhile aF),c.toNat<128∧Lib.upperB c=Ke.up c:=fun c G=>by
  obtain⟨h1,h2⟩:=vW.1 G;have h3:aF c=true:=yG.1 (dH (p:=aF)) c h1;revert h3;exact Ke.a3D (p:=fun c=>aF c=true→c.toNat<128∧Lib.upperB c=Ke.up c) (by decide +kernel) c
 have O:(dI (s.takeWhile aF)).length≤s.length:=FD (wP _ _) (bP _).length_le;have h:=Tryz.strings_ToUpper_ascii ⟨(dI (s.takeWhile aF)).toArray⟩ w (by rw[size_mk];omega) (fun j b M=>by rw[GK]at M;exact(A b (CJ M)).1);rw[GK]at h;have e:Lib.toUpperA (dI (s.takeWhile aF))=aA s:=List.map_congr_left fun c G=>(A c G).2;rw[e]at h;exact h
theorem c3V{a b}(h:a.length=12):aW (a++b)=aW a:=by
 unfold aW;rw[tZ oM]
theorem b2I{a b}(h:aN a=true)(A:a.length=9):aN (([57,55,56]++a++b).take 12)=true:=by
 rw[tZ (by simp;omega),tX (by simp;omega),Ke.a3V,h];rfl
theorem b0S s (hs:s.length≤100000000) I:Pure aB 100 [str s] I (.tuple #[str (aT s).1,.bool (aT s).2]):=by
 refine bZ ?_;have ah:=b9W s;have ao:=b3z s;have ap:(s.takeWhile aF).length≤s.length:=(bP _).length_le;refine zN func100 fun w0 _=>?_;refine zX (b4D s _) ?_;intro _ _ _ _ ai;obtain⟨n,h,hn,rfl⟩:=ai;cases h;refine yU 3 ?_;refine Cj.join (ι:=Heap) (fun J4=>True) (fun J4=>[(0,str (s.takeWhile aF))]) (fun J4=>J4) (fun J4=>[]) ?_ (fun A=>?_)
 ·rintro J4 -;refine yU 3 ?_;intro b6 _;refine J.pull Pull.z ?_;refine zX (a9Q _ _ _ _ b6 _ _) ?_;intro _ _ _ _ ac;obtain⟨rb,aj,h,rfl,ho⟩:=ac;cases h;refine yU 1 ?_;refine J.pull Pull.z ?_;refine zX (b7g rb aj (s.takeWhile aF) oM _ ho) ?_;intro _ _ _ _ ad;obtain⟨h,rfl⟩:=ad;cases h;refine aP 15 (str (dI (s.takeWhile aF))) rfl rfl ?_;refine zO (b9K s oM _) ?_;refine yU 3 ?_;refine Cj.join (ι:=Heap) (fun J8=>¬((aA s).length=10∧aX (aA s)=true)∧¬((aA s).length=13∧aN (aA s)=true∧aW (aA s)=(aA s).getD 12 0)) (fun J8=>[(0,str (aA s))]) (fun J8=>J8) (fun J8=>[]) ?_ (fun A=>?_)
  ·rintro J8 ⟨M,G⟩;refine yU 7 ?_;refine bC (aJ _) ?_;refine zM ?_;have he:aT s=([],false):=by unfold aT dN;rw[zD M,zD G]
   rw[he];exact rT
  refine yU 1 ?_;refine Cj.join (ι:=Bool×Heap) (fun y=>(y.1=true→(aA s).length=10∧aX (aA s)=true)∧(y.1=false→¬((aA s).length=10∧aX (aA s)=true))) (fun y=>[(0,str (aA s)),(17,.bool y.1)]) (fun y=>y.2) (fun y=>[]) ?_ (fun A=>?_)
  ·rintro⟨y,_⟩ ⟨a7,a8⟩;dsimp only at a7 a8 ⊢;refine DF ?_ ?_<;>intro O
   ·obtain⟨a2,a9⟩:=a7 O;have al:aN ((aA s).take 9)=true:=(Bool.and_eq_true_iff.1 a9).2;have ae:=b2I (b:=[48]) al (by rw[wI];omega);refine yU 3 ?_;refine aG (AO (p:=0) (q:=9) rfl rfl AV rfl ⟨_,rfl⟩ oM oM) ?_;refine aP 26 (str ((aA s).take 9)) rfl (by rw[xU]) ?_;refine aG (BQ rfl rfl rfl (by first|omega|(simp only[wV];omega)|(simp;omega))) ?_;refine yU 7 ?_;refine aG (BQ rfl rfl rfl (by first|omega|(simp only[wV];omega)|(simp;omega))) ?_;refine zO (b4G _ (by simp;omega) (by simp;omega) ae _) ?_;refine aP 31 (u8 (aW ([57,55,56]++(aA s).take 9))) rfl (by rw[c3V (by simp;omega)]) ?_;refine yU 1 ?_;intro _ _;refine aG (OE [aW ([57,55,56]++(aA s).take 9)] rfl rfl rfl KE AV tU5 (yX.at 0 rfl) rfl) ?_;refine aG (BQ rfl rfl rfl (by first|omega|(simp only[wV];omega)|(simp;omega))) ?_;refine yU 7 ?_;refine bC (aJ _) ?_;refine zM ?_;have he:aT s=([57,55,56]++(aA s).take 9++[aW ([57,55,56]++(aA s).take 9)],true):=by unfold aT dN;rw[zF ⟨a2,a9⟩]
    rw[he];exact rT
   have M:=a8 O;refine yU 1 ?_;refine dF [] [] 15 kR ?_;refine yU 4 ?_;refine JA.split 39 rfl (fun Q=>?_) (fun Q=>?_)
   rotate_left
   ·have G:¬((aA s).length=13∧aN (aA s)=true∧aW (aA s)=(aA s).getD 12 0):=fun e=>CB Q (by rw[e.1];rfl);refine yU 16 ?_;exact A _ _ _ _ ⟨M,G⟩ rT rfl rfl
   have am:(aA s).length=13:=by have h:=BP Q;omega
   refine zO (a0d (aA s) oM _) ?_;refine yU 3 ?_;refine JA.split 43 rfl (fun N=>?_) (fun N=>?_)
   rotate_left
   ·have G:¬((aA s).length=13∧aN (aA s)=true∧aW (aA s)=(aA s).getD 12 0):=fun e=>aI (e.2.1.symm.trans N);refine yU 12 ?_;exact A _ _ _ _ ⟨M,G⟩ rT rfl rfl
   have aa:aN (aA s)=true:=N;have af:aN ((aA s).take 12)=true:=yG.2 fun c hc=>yG.1 aa c (vO hc);obtain⟨c,a3⟩:∃c,(aA s)[12]?=some c:=⟨_,AA oM⟩;have ab:(aA s).getD 12 0=c:=by rw[List.getD,a3];rfl
   refine yU 2 ?_;refine JA.fix CP (fun ag=>?_);refine JA.tkG 11 7 43 true _ rfl ag rfl rfl N (IC AV a3) ?_;refine zO (b4G (aA s) oM oM af _) ?_;refine yZ ?_ ?_<;>intro Z a5
   ·have an:aW (aA s)=(aA s).getD 12 0:=by have h:=BP Z;rw[ab];exact sJ.1 oM
    refine yU 10 ?_;refine bC (aJ _) ?_;refine zM ?_;have he:aT s=(aA s,true):=by unfold aT dN;rw[zD M,zF ⟨am,aa,an⟩]
    rw[he];exact rT
   ·have G:¬((aA s).length=13∧aN (aA s)=true∧aW (aA s)=(aA s).getD 12 0):=fun e=>CB Z (by rw[e.2.2,ab]);refine yU 2 ?_;exact A _ _ _ _ ⟨M,G⟩ rT rfl rfl
  refine EH ?_ ?_<;>intro a0
  ·have a2:(aA s).length=10:=by have h:=BP a0;omega
   refine zO (b2R (aA s) a2 ah _) ?_;refine yU 3 ?_;exact A (aX (aA s),_) _ _ _ ⟨fun h=>⟨a2,h⟩,fun h e=>aI (e.2.symm.trans h)⟩ rT rfl rfl
  have M:¬((aA s).length=10∧aX (aA s)=true):=fun e=>CB a0 (by rw[e.1];rfl);refine yU 5 ?_;exact A (false,_) _ _ _ ⟨fun h=>(by cases h),fun _=>M⟩ ⟨rfl,by first|rfl|exact zC (fun b=>some (Value.bool b)) (by assumption),trivial⟩ rfl rfl
 refine yZ ?_ ?_<;>intro a1 a6
 ·obtain⟨k,rfl,_,a4⟩:∃k:Nat,n=k∧k≤s.length∧s.takeWhile aF=s.take k:=hn.elim (fun h=>absurd (DK a1) (by rw[h.1];decide)) id;refine yU 3 ?_;refine aG (AO (p:=0) (q:=k) rfl rfl AV rfl ⟨_,rfl⟩ oM oM) ?_;refine aP 11 (str (s.takeWhile aF)) rfl (by rw[a4,xU]) ?_;refine yU 2 ?_;exact A _ _ _ _ trivial rT rfl rfl
 have a4:s.takeWhile aF=s:=hn.elim (fun h=>h.2) (fun⟨k,h,_⟩=>absurd (DN a1) (by rw[h];simp));refine yU 1 ?_;exact A _ _ _ _ trivial ⟨(zC (fun l=>some (str l)) a4.symm),trivial⟩ rfl rfl
end Go.Proofs.YtalapkjmkjmpjaaGreatDoor
end
namespace Ke
abbrev Row:=List Bs
def pg (s:Bs):Bool→Row→Row
 |true,[]=>[]
 |false,[]=>[s]
 |d,x::r=>if s<x∧d=false then s::x::pg s true r else x::pg s d r
def put (l:Row) (s:Bs):Row:=if s∈l then l else pg s false l
def Inc (l:Row):Prop:=l.Pairwise (· <·)
theorem a1e s:∀l,pg s true l=l
 |[]=>rfl
 |x::r=>by unfold pg;rw[zD sI,a1e s r]
theorem b5y s:∀(l:Row) (x:Bs),x∈pg s false l↔x=s∨x∈l
 |[],x=>by simp[pg]
 |y::r,x=>by
  unfold pg
  by_cases h:s<y
  ·rw[zF ⟨h,rfl⟩,a1e];simp
  rw[zD (fun e=>h e.1),vX,b5y s r x,vX];constructor
  ·rintro(h|h|h)<;>simp[h]
  rintro(h|h|h)<;>simp[h]
theorem c7q{a b:Bs}(h:¬b<a)(A:a≠b):a<b:=by
 have h1:a≤b:=vH.1 h;rcases Decidable.em (a<b)with h2|h2
 ·exact h2
 exact absurd (List.le_antisymm h1 (vH.1 h2)) A
theorem c1f s:∀{l:Row},Inc l→s ∉ l→Inc (pg s false l)
 |[],_,_=>by simp[pg,Inc]
 |y::r,hl,hn=>by
  have G:=uY.1 hl;unfold pg
  by_cases h:s<y
  ·rw[zF ⟨h,rfl⟩,a1e];refine uY.2 ⟨fun z A=>?_,hl⟩;rcases vX.1 A with rfl|A
   ·exact h
   exact eF h (G.1 z A)
  rw[zD (fun e=>h e.1)];refine uY.2 ⟨fun z A=>?_,c1f s G.2 fun e=>hn (.tail _ e)⟩;rcases(b5y s r z).1 A with rfl|A
  ·exact c7q h fun e=>hn (e▸ .head _)
  exact G.1 z A
theorem put_mem l s x:x∈put l s↔x=s∨x∈l:=by
 unfold put
 split
 ·rename_i h
  exact⟨.inr,fun e=>e.elim (fun e=>e▸h) id⟩
 exact b5y s l x
theorem b7x{l} s (h:Inc l):Inc (put l s):=by
 unfold put
 split
 ·exact h
 rename_i A;exact c1f s h A
theorem a3H:∀(xs:Row) {l:Row},Inc l→Inc (xs.foldl put l)
 |[],_,h=>h
 |x::r,_,h=>a3H r (b7x x h)
theorem a7I:∀(xs l:Row) (x:Bs),x∈xs.foldl put l↔x∈xs∨x∈l
 |[],_,_=>sI
 |y::r,l,x=>by
  rw[List.foldl_cons,a7I r,put_mem,vX];constructor
  ·rintro(h|h|h)<;>simp[h]
  rintro((h|h)|h)<;>simp[h]
theorem a5g:∀{a b:Row},Inc a→Inc b→(∀x,x∈a↔x∈b)→a=b
 |[],[],_,_,_=>rfl
 |[],y::_,_,_,h=>absurd ((h y).2 (.head _)) sI
 |x::_,[],_,_,h=>absurd ((h x).1 (.head _)) sI
 |x::r,y::t,ha,hb,h=>by
  have A:=uY.1 ha;have G:=uY.1 hb;have O:x=y:=by
   rcases vX.1 ((h x).1 (.head _))with e|e
   ·exact e
   rcases vX.1 ((h y).2 (.head _))with N|N
   ·exact N.symm
   exact absurd (eF (G.1 x e) (A.1 y N)) (wH _)
  subst O;rw[a5g A.2 G.2 fun z=>⟨fun M=>?_,fun M=>?_⟩]
  ·rcases vX.1 ((h z).1 (.tail _ M))with rfl|e
   ·exact absurd (A.1 z M) (wH _)
   exact e
  rcases vX.1 ((h z).2 (.tail _ M))with rfl|e
  ·exact absurd (G.1 z M) (wH _)
  exact e
open Go.Lib in
theorem SI(d:Array Bs)(M:∀i j,i<j→j<d.size→d[i]! ≤d[j]!):∀m,m≤d.size→Inc (compactUpTo d m)∧∀x,x∈compactUpTo d m↔∃j,j<m∧x=d[j]!
 |0,_=>⟨bW,fun x=>by simp[compactUpTo]⟩
 |m+1,hm=>by
  obtain⟨h1,h2⟩:=SI d M m oM;rw[compactUpTo_succ]
  by_cases hk:keeps d m=true
  ·rw[zF hk];refine⟨vC.2 ⟨h1,uT _ _,fun a ha b hb=>?_⟩,fun x=>?_⟩
   ·rw[vN.1 hb];obtain⟨j,G,rfl⟩:=(h2 a).1 ha;have A:m=0∨d[m]! ≠d[m-1]! :=zA hk;have O:=A.resolve_left oM;have h3:d[m-1]! ≤d[m]! :=M _ _ oM oM;have Q:d[m-1]! <d[m]! :=c7q (vH.2 h3) O.symm;rcases tC j (m-1)with h|h
    ·have N:d[j]! ≤d[m-1]! :=M _ _ h oM;exact List.lt_of_le_of_lt N Q
    have:j=m-1:=oM;rw[this];exact Q
   rw[wB,h2,vN];constructor
   ·rintro(⟨j,G,rfl⟩|rfl)
    ·exact⟨j,oM,rfl⟩
    exact⟨m,oM,rfl⟩
   rintro⟨j,G,rfl⟩;rcases tC j m with h|h
   ·exact .inl ⟨j,h,rfl⟩
   have:j=m:=oM;exact .inr (by rw[this])
  rw[zD hk,yD];refine⟨h1,fun x=>(h2 x).trans ⟨fun⟨j,G,e⟩=>⟨j,oM,e⟩,fun⟨j,G,e⟩=>?_⟩⟩;rcases tC j m with h|h
  ·exact⟨j,h,e⟩
  have A:¬(m=0∨d[m]! ≠d[m-1]!):=fun e=>hk (zH e);have Z:j=m:=oM;subst Z;have N:d[j]! =d[j-1]! :=Decidable.not_not.1 fun e=>A (.inr e);have h6:j≠0:=fun e=>A (.inl e);exact⟨j-1,oM,e.trans N⟩
theorem OX(l:Row):aK (l.mergeSort fun x y=>decide (x≤y))=l.foldl put []:=by
 have Q:(l.mergeSort fun x y=>decide (x≤y)).Pairwise (fun a b=>decide (a≤b)=true):=
  List.pairwise_mergeSort (le:=fun x y:Bs=>decide (x≤y)) (fun a b c h1 h2=>zH (List.le_trans (zA h1) (zA h2))) (fun a b=>by
   rcases List.le_total a b with h|h<;>simp[h]) l
 have M:=SI (l.mergeSort fun x y=>decide (x≤y)).toArray (fun i j G A=>by
  have N:j<(l.mergeSort fun x y=>decide (x≤y)).length:=by simpa using A
  have O:i<(l.mergeSort fun x y=>decide (x≤y)).toArray.size:=Nat.lt_trans G A;rw[getElem!_pos _ i O,getElem!_pos _ j A];simp only[List.getElem_toArray];exact zA (List.pairwise_iff_getElem.1 Q i j oM N G)) _ (tH _)
 refine a5g ?_ (a3H l bW) fun x=>?_
 ·unfold aK;simpa using M.1
 have h2:=M.2 x;simp only[List.size_toArray]at h2;unfold aK;rw[h2,a7I];have Z:x∈l↔x∈l.mergeSort fun x y=>decide (x≤y):=List.mem_mergeSort.symm;rw[show(x∈l∨x∈[])=(x∈l) by simp,Z,List.mem_iff_getElem];constructor
 ·rintro⟨j,A,rfl⟩;refine⟨j,A,?_⟩;rw[getElem!_pos _ j (by simpa using A)];simp
 rintro⟨j,A,rfl⟩;refine⟨j,A,?_⟩;rw[getElem!_pos _ j (by simpa using A)];simp
structure Sub where
  code:UInt8
  text:Bs
structure FN where
  tag:Bs
  ind:Bs
  data:Bs
  sv:Go.Value
  subs:List Sub
def zf:FN:=⟨[],[],[],.slice none 0 0,[]⟩
def find (fs:List FN) (tag:Bs):Option FN:=fs.find? fun f=>decide (f.tag=tag)
def first(fs:List FN) (tag:Bs):FN:=(find fs tag).getD zf
def texts (f:FN) (codes:Bs):Row:=(f.subs.filter fun s=>codes.contains s.code).map (·.text)
def textOf (f:FN) (codes:Bs):Bs:=join (texts f codes)
def skip (f:FN):Nat:=match f.ind[1]? with
 |some c=>if digit c then c.toNat-48 else 0
 |none=>0
def title (fs:List FN):Bs:=GL (textOf (first fs [50,52,53]) [97,98]) (skip (first fs [50,52,53]))
def b0E:Bs:=[105,115,98,110,32]
def book (s:Sub):Option Bs:=if (WC s.text).2=true∧s.code=97 then some (b0E++(WC s.text).1)else none
def books (f:FN):Row:=if f.tag=[48,50,48]then f.subs.filterMap book else[]
def UY (fs:List FN):Row:=if title fs=[]then[]else[[116,105,116,108,101,32]++title fs++[32,47,32]++((words (textOf (first fs [49,48,48]) [97])).head?.getD [])]
def raw (fs:List FN):Row:=fs.flatMap books++UY fs
def all (fs:List FN):Row:=(raw fs).foldl put []
end Ke
section
namespace Go.Proofs.YtalapkjmkjmpjaaGreatDoor
open _root_.Go.Proofs.Tryz
open Go Go.Sx
def XL (s:Ke.Sub):List Value:=[u8 s.code,str s.text]
def IQ (f:Ke.FN):List Value:=[str f.tag,str f.ind,str f.data,f.sv]
theorem JH s:(XL s).length=2:=rfl
theorem LK f:(IQ f).length=4:=rfl
def KC (I:Heap) (fs:List Ke.FN) (v:Value):Prop:=zJ IQ I fs v∧∀f∈fs,zJ XL I f.subs f.sv
theorem KC.mono{I G fs v}(h:KC I fs v)(A:Le I G):KC G fs v:=⟨h.1.mono A,fun f M=>(h.2 f M).mono A⟩
def a1A (k l:UInt8) (v:Value):Value:= .agg #[u8 k,u8 l,v]
def CZ (ss:List Ke.Sub):Nat:=(ss.map (·.text.length)).sum
def FOK (fs:List Ke.FN):Prop:=fs.length≤2000000∧∀f∈fs,f.subs.length≤2000000∧CZ f.subs≤3000000∧f.ind.length≤2000000
theorem b1h{fs tag}(h:∀f∈fs,f.tag≠tag):Ke.find fs tag=none:=List.find?_eq_none.2 fun f A=>by simp[h f A]
theorem b1a{fs tag k f}(h:∀g∈fs.take k,g.tag≠tag)(G:fs[k]?=some f)(M:f.tag=tag):Ke.find fs tag=some f:=by
 obtain⟨_,N⟩:=xC.1 G;unfold Ke.find;rw[List.find?_eq_some_iff_append];refine⟨zH M,fs.take k,fs.drop (k+1),?_,fun g A=>by simp[h g A]⟩;rw[←N,wX,uD]
def foundAt (fs:List Ke.FN) (tag:List UInt8) (n:Int):Prop:=(n= -1∧Ke.find fs tag=none)∨∃(k:Nat) (f:Ke.FN),n=k∧fs[k]?=some f∧Ke.find fs tag=some f
theorem b1J{fs:List Ke.FN}{tag k f}(h:∀g∈fs.take k,g.tag≠tag)(N:fs[k]?=some f)(O:f.tag≠tag):∀g∈fs.take (k+1),g.tag≠tag:=fun g A=>by
 obtain⟨G,M⟩:=xC.1 N;rw[tN G,wB,vN]at A;rcases A with A|rfl
 ·exact h g A
 rw[M];exact O
theorem PN{base sz n xs ys g}(h:AL base sz n xs g)(A:ys.length=xs.length):AL base sz n ys g:=by
 cases g with
 |none=>
  obtain⟨h1,h2⟩:=h;exact⟨h1,wR.1 (by rw[A,h2];rfl)⟩
 |some q=>
  obtain⟨b,c,sp⟩:=q;obtain⟨h1,h2,h3⟩:=h;exact⟨h1,by rw[A];exact h2,by rw[A];exact h3⟩
theorem c4T f tb tag I (A:I tb=some (yV 9 [str tag])):Pure aB 174 [.agg (IQ f).toArray,ptr tb 0] I (.bool (f.tag == tag)):=by
 refine zN func174 fun w0 _=>?_;refine yU 3 ?_;intro _ _;refine zV ?_;exact rT
theorem b2V fs v (a4:fs.length≤2000000) tb tag I (hr:KC I fs v)(Z:I tb=some (yV 9 [str tag])):yY aB 173 [v,.func (.func 174) #[] #[ptr tb 0]] I []
 (fun e I' H'=>∃n,e= .returned (i64 n)∧foundAt fs tag n∧H'=[]):=by
 obtain⟨⟨p,c,rfl,_,hp⟩,_⟩:=hr;refine zN func173 fun w0 _=>?_;refine yU 14 ?_;refine bM (ι:=Nat) (fun j=>j≤fs.length∧∀g∈fs.take j,g.tag≠tag) (fun j=>fs.length-j) (fun j=>[(0,.slice p fs.length c),(1,.func (.func 174) #[] #[ptr tb 0]),(7,i64 (fs.length:Int)),(8,i64 (j:Int))]) (fun j=>I) (fun j=>[]) 0 ⟨sQ _,fun g hg=>by simp at hg⟩ rT rfl rfl ?_;rintro j ⟨_,A⟩;refine yZ ?_ ?_<;>intro a0 Q
 ·have O:j<fs.length:=oM;obtain⟨f,G⟩:∃f,fs[j]?=some f:=⟨_,AA O⟩;obtain⟨_,fo,_,_,_,sp,rfl,a1,a2⟩:=hp (zK O);refine zW (fo+j*4) ?_;refine aG (CX a1t KX (dM a1) (AY LK a2 G)) ?_;refine zO (c4T f tb tag _ Z) ?_;refine DF ?_ ?_<;>intro M
  ·have ht:f.tag=tag:=BP M;refine zM ?_;exact⟨_,rfl,.inr ⟨j,f,rfl,G,b1a A G ht⟩,rfl⟩
  have a3:f.tag≠tag:=CB M;refine yU 7 ?_;refine aV (j+1) ⟨oM,b1J A G a3⟩ oM rT rfl rfl
 have N:fs.take j=fs:=tX oM;rw[N]at A;refine zM ?_;exact⟨_,rfl,.inl ⟨rfl,b1h A⟩,rfl⟩
theorem PY{f p n c}(h:f.sv= .slice p n c):(IQ f).all Value.oneCell'=true:=by
 unfold IQ;rw[h];rfl
def tx (codes:List UInt8) (ss:List Ke.Sub):List (List UInt8):=(ss.filter fun s=>codes.contains s.code).map (·.text)
theorem b8r{codes}{ss:List Ke.Sub}{k s}(h:ss[k]?=some s):tx codes (ss.take (k+1))=tx codes (ss.take k)++(if codes.contains s.code then[s.text]else[]):=by
 obtain⟨A,G⟩:=xC.1 h;unfold tx;rw[tN A,G,xR,wG]
 by_cases hc:codes.contains s.code=true
 ·rw[zF hc,List.filter_cons_of_pos (p:=fun s:Ke.Sub=>codes.contains s.code) hc];rfl
 rw[zD hc,List.filter_cons_of_neg (p:=fun s:Ke.Sub=>codes.contains s.code) hc];rfl
theorem a4L codes ss:(tx codes ss).length≤ss.length:=by
 unfold tx;rw[wO];exact wP _ _
theorem WE:∀l:List (List UInt8),(dB l).length≤(l.map List.length).sum+l.length
 |[]=>by simp[dB]
 |[a]=>by simp[dB]
 |a::b::r=>by
  have:=WE (b::r);simp only[dB,wV,wF,uI,wU,wL]at this ⊢;omega
theorem c1B codes:∀ss:List Ke.Sub,((tx codes ss).map List.length).sum≤CZ ss
 |[]=>by simp[tx]
 |s::r=>by
  have:=c1B codes r;unfold tx CZ at this ⊢;rw[List.filter_cons]
  split
  ·simp only[wF,uI];omega
  simp only[wF,uI];omega
theorem MF f codes:(Ke.textOf f codes).length≤CZ f.subs+f.subs.length:=by
 have h1:=WE (tx codes f.subs);have h2:=c1B codes f.subs;have h3:=a4L codes f.subs;have:Ke.textOf f codes=dB (tx codes f.subs):=rfl;rw[this];omega
theorem a2q l c:decide (0≤aO l c)=l.contains c:=by
 induction l with
 |nil=>rfl
 |cons d r A=>
  rw[aO,List.contains_cons];simp only[beq_iff_eq]
  by_cases h:d=c
  ·subst h;simp
  rw[zD h,show(c == d)=false from beq_eq_false_iff_ne.2 (Ne.symm h),eG,←A]
  by_cases h0:aO r c<0
  ·have:¬0≤aO r c:=oM;rw[zI this];exact zI (by split<;>omega)
  have:0≤aO r c:=oM;rw[zH this];exact zH (by split<;>omega)
theorem b8i fs v rk rl tag codes (ab:FOK fs) I (Q:KC I fs v):yY aB 102 [a1A rk rl v,str tag,str codes] I []
 (fun e I' H'=>e= .returned (.tuple #[str (Ke.textOf (Ke.first fs tag) codes),.agg (IQ (Ke.first fs tag)).toArray])∧H'=[]):=by
 have ap:=ab.1;refine zN func102 fun w0 _=>?_;refine yU 3 ?_;intro b1 _;refine yU 1 ?_;intro b2 aq;refine yU 2 ?_;intro b3 _;refine yU 3 ?_;refine Cj.pull (Pull.s Pull.z) ?_;refine Cj.persist aq (fun _ ag a0=>?_);have Q:=Q.mono ag;refine zX (b2V fs v ap b2 tag _ Q a0) ?_;intro _ _ _ a3 ar;have Q:=Q.mono a3;have a0:=a3 _ _ a0;obtain⟨n,h,hn,rfl⟩:=ar;cases h;refine yZ ?_ ?_<;>intro a4 ah
 ·have a5:=DK a4;have N:Ke.find fs tag=none:=(hn.resolve_right (fun⟨k,f,h,_⟩=>by rw[h]at a5;omega)).2;refine yU 2 ?_;refine aG (zL (pl:= #[(0,1),(1,1),(2,1),(3,1)]) rfl rfl a2x rfl a9X (fun w=>by simp[BD,sizeOf90]) GU.none) ?_;refine yU 6 ?_;have M:Ke.first fs tag=Ke.zf:=by unfold Ke.first;rw[N];rfl
  rw[M];refine Ej.c7w (aH (aH Keeps.n)) rfl rfl rfl (yX.at 0 rfl) a1t KX rfl rfl ?_;exact rT
 have a5:=DN a4;obtain⟨k,f,rfl,O,N⟩:=hn.resolve_left (fun h=>a5 (by rw[h.1];decide));have ac:=CJ O;have ai:=(xC.1 O).1;have aj:=Q.2 f ac;have b0:=ab.2 f ac;obtain⟨⟨p,c,rfl,_,hp⟩,-⟩:=Q;obtain⟨fb,fo,_,_,_,sp,rfl,a1,ad⟩:=hp (zK ai);obtain⟨p2,c2,ae,_,au⟩:=aj;refine zW (fo+k*4) ?_;refine aG (zY (off':=fo+k*4+3) a9X sizeOf90) ?_;refine aG (BU rfl rfl isAgg90 (dM a1) (BO LK ad O 3 dE)) ?_;refine aP 24 (.slice p2 f.subs.length c2) rfl ae ?_;refine yU 5 ?_;refine bM (ι:=Nat×Gs) (fun j=>j.1≤f.subs.length∧AL w0.heap.size 1 (tx codes (f.subs.take j.1)).length ((tx codes (f.subs.take j.1)).map str) j.2) (fun j=>f.subs.length-j.1) (fun j=>[(2,str codes),(3,ptr b1 0),(7,ptr b3 0),(8,i64 (k:Int)),(9,gV (tx codes (f.subs.take j.1)).length j.2),(24,.slice p2 f.subs.length c2),(25,i64 (f.subs.length:Int)),(26,i64 (j.1:Int))]) (fun j=>_) (fun j=>(b3,yV 92 (IQ Ke.zf))::(b1,yV 45 [u8 rk,u8 rl,.slice (some ⟨fb,fo,none⟩) fs.length c])::gH 9 ((tx codes (f.subs.take j.1)).map str) j.2) (0,none) ⟨sQ _,rfl,rfl⟩ rT rfl rfl ?_;rintro⟨j,g⟩ ⟨hj,hg⟩;dsimp only at hj hg ⊢;have av:=a4L codes (f.subs.take j);rw[wI,sW hj]at av;refine yZ ?_ ?_<;>intro al a8
 ·have af:j<f.subs.length:=oM;obtain⟨sb,a2⟩:∃x,f.subs[j]?=some x:=⟨_,AA af⟩;obtain⟨_,so,_,_,_,_,rfl,am,aw⟩:=au (zK af);have G:=b8r (codes:=codes) a2;refine zW (so+j*2) ?_;refine aG (CX isAgg89 a1G (dM am) (AY JH aw a2)) ?_;refine yU 1 ?_;intro _ _;refine zO (a1I _ _ _) ?_;refine yZ ?_ ?_<;>intro Z a9
  ·have a6:codes.contains sb.code=true:=(a2q _ _).symm.trans Z;rw[zF a6]at G;refine yU 5 ?_;intro _ _;refine KT 15 [_,_,_,_] hg ?_;intro ax an;refine yU 8 ?_;refine bC (aH (aH (bG (bG bI)))) ?_;refine aV (j+1,ax) ⟨dO,by dsimp only;rw[G,wG,wV];exact an⟩ dO ⟨rfl,rfl,rfl,rfl,by dsimp only;rw[G,wV];rfl,rfl,rfl,rfl,trivial⟩ rfl (by dsimp only;rw[G,wG];rfl)
  have a6:¬codes.contains sb.code=true:=fun e=>aI (e.symm.trans ((a2q _ _).symm.trans Z));rw[zD a6]at G;refine yU 7 ?_;refine bC (aH (bG (bG bI))) ?_;refine aV (j+1,g) ⟨dO,by dsimp only;rw[G,yD];exact hg⟩ dO ⟨rfl,rfl,rfl,rfl,by dsimp only;rw[G,yD];rfl,rfl,rfl,rfl,trivial⟩ rfl (by dsimp only;rw[G,yD])
 refine yU 6 ?_;have aa:f.subs.take j=f.subs:=tX oM;rw[aa]at hg ⊢;have az:=MF f codes;refine dV (H':=gH _ _ _++[_,_]) uQ ?_;refine Cj.NV hg (fun _ ao hv=>?_);have a1:=ao _ _ a1;refine dF [1] [] 9 kR ?_;have ay:=a0;have a7:=a1;refine JA.fix CP (fun A=>?_);refine dS 0 rfl A zS ?_;refine dS 2 rfl A (zY (off':=2) b4T sizeOf43) ?_;refine dS 3 rfl A (BX isAgg43 (yX.NI 0 rfl)) ?_;refine dS 4 rfl A zS ?_;refine dS 5 rfl A (FZ (off':=fo+k*4) a7Q KX) ?_;refine dS 6 rfl A (CX a1t KX (yX.RU a7) (AY LK ad O)) ?_;refine zO (a6n (tx codes f.subs) _ (by have:=a4L codes f.subs;omega) (by have e:dB (tx codes f.subs)=Ke.textOf f codes:=rfl;rw[e];omega) _ hv) ?_;refine yU 2 ?_;refine qq2 8 rfl (DV 0 rfl rfl rfl rfl rfl (PY ae) KX rfl rfl lsA cO ?_);refine yU 4 ?_;have M:Ke.first fs tag=f:=by unfold Ke.first;rw[N];rfl
 rw[M];refine Ej.c7w (aH (aH Keeps.n)) rfl rfl rfl (yX.at 0 rfl) a1t KX rfl rfl ?_;exact rT
theorem a7t fs tag:Ke.first fs tag=Ke.zf∨Ke.first fs tag∈fs:=by
 unfold Ke.first;cases h:Ke.find fs tag with
 |none=>exact .inl rfl
 |some f=>exact .inr (List.mem_of_find?_eq_some h)
theorem a3P{I fs v} tag (h:KC I fs v):∃p n c,(Ke.first fs tag).sv= .slice p n c:=by
 rcases a7t fs tag with e|e
 ·rw[e];exact⟨_,_,_,rfl⟩
 obtain⟨p,c,h1,_⟩:=h.2 _ e;exact⟨p,_,c,h1⟩
theorem a1p{fs} tag (h:FOK fs):(Ke.first fs tag).subs.length≤2000000∧CZ (Ke.first fs tag).subs≤3000000∧(Ke.first fs tag).ind.length≤2000000:=by
 rcases a7t fs tag with e|e
 ·rw[e];exact⟨sQ _,sQ _,sQ _⟩
 exact h.2 _ e
theorem d0U{l:List UInt8}{c}(h:l[1]?=some c):(l.take 2).drop 1=[c]:=by
 obtain⟨_,_⟩:=xC.1 h;rw[List.drop_take,drop_cons h];rfl
theorem a2N{f c}(h:f.ind[1]?=some c):Ke.skip f=if aN [c]=true then c.toNat-48 else 0:=by
 unfold Ke.skip;rw[h];simp[aN]
theorem a6f{f}(h:¬1<f.ind.length):Ke.skip f=0:=by
 unfold Ke.skip;rw[xE oM]
theorem c5w fs v rk rl (Z:FOK fs) I (hr:KC I fs v):Pure aB 101 [a1A rk rl v] I (str (Ke.title fs)):=by
 refine bZ ?_;have a2:=a1p [50,52,53] Z;have a3:=MF (Ke.first fs [50,52,53]) [97,98];obtain⟨p,n,c0,a0⟩:=a3P [50,52,53] hr;refine zN func101 fun w0 _=>?_;refine yU 3 ?_;intro _ _;refine zX (b8i fs v rk rl [50,52,53] [97,98] Z _ hr) ?_;intro _ _ _ _ a1;obtain⟨h,rfl⟩:=a1;cases h;refine yU 4 ?_;intro _ _;refine yU 1 ?_;refine aY rfl (DV 0 rfl rfl rfl rfl rfl (PY a0) KX rfl rfl lsA cO ?_);refine EH ?_ ?_<;>intro M
 ·have N:1<(Ke.first fs [50,52,53]).ind.length:=by have h:=DK M;omega
  obtain⟨c,A⟩:∃c,(Ke.first fs [50,52,53]).ind[1]?=some c:=⟨_,AA N⟩;refine yU 2 ?_;refine J.zg (AO (p:=1) (q:=2) rfl rfl AV ⟨_,rfl⟩ ⟨_,rfl⟩ oM oM) ?_;refine aP 18 (str [c]) rfl (by rw[d0U A]) ?_;refine zO (a0d [c] sI _) ?_;refine DF ?_ ?_<;>intro O
  ·have Q:aN [c]=true:=O;have a4:=a5q (k:=0) Q rfl;refine yU 3 ?_;refine aG (IC AV A) ?_;refine aG (VG rfl rfl rfl (w8 oM)) ?_;refine yU 1 ?_;refine aP 25 (i64 ((c.toNat-48:Nat):Int)) rfl (zC i64 ((IJ oM).trans oM)) ?_;refine zO (WU (Ke.textOf (Ke.first fs [50,52,53]) [97,98]) _ oM _) ?_;refine zV ?_;have G:=(a2N A).trans (zF Q);unfold Ke.title;rw[G];exact rT
  have Q:¬aN [c]=true:=fun e=>aI (e.symm.trans O);refine zO (WU (Ke.textOf (Ke.first fs [50,52,53]) [97,98]) _ oM _) ?_;refine zV ?_;have G:=(a2N A).trans (zD Q);unfold Ke.title;rw[G];exact rT
 have N:¬1<(Ke.first fs [50,52,53]).ind.length:=by have h:=DN M;omega
 refine zO (WU (Ke.textOf (Ke.first fs [50,52,53]) [97,98]) _ oM _) ?_;refine zV ?_;have G:=a6f N;unfold Ke.title;rw[G];exact rT
end Go.Proofs.YtalapkjmkjmpjaaGreatDoor
end
section
namespace Go.Proofs.YtalapkjmkjmpjaaGreatDoor
open _root_.Go.Proofs.Tryz
open Go Go.Sx
theorem a7T{base}(l:List (List UInt8)) g (N:AL base 1 l.length (l.map str) g)(Q:l.length≤100000000000000) I:yY aB 104 [gV l.length g] I (gH 9 (l.map str) g)
 (fun e O H'=>e= .returned (.tuple #[])∧H'=gH 9 ((l.mergeSort fun x y=>decide (x≤y)).map str) g):=by
 cases g with
 |none=>
  obtain⟨h1,h2⟩:=b0I N;subst h1;exact(bQ (bH func104 dE rfl) (fun w _=>Tryz.slices_Sort_string_none none 0 w)).mono fun e O H' _ ⟨h1,_,h3⟩=>⟨h1,h3⟩
 |some q=>
  obtain⟨b,c,sp⟩:=q;refine⟨bH func104 dE rfl,fun w G=>?_⟩;have A:=G.2.1 _ (.head _);have M:b<w.heap.size:=by
   rcases tC b w.heap.size with h|h
   ·exact h
   rw[yR h]at A;cases A
  exact(Tryz.slices_Sort_string b 0 c l w (b2n A) M oM).mono fun e w' ⟨h1,n,os,h2⟩=>⟨I,_,h2▸St.row n os G sI,h1,rfl⟩
theorem a2w{base} l g (G:AL base 1 l.length (l.map str) g)(hl:l.length≤100000000000000) I:yY aB 105 [gV l.length g] I (gH 9 (l.map str) g)
 (fun e N H'=>∃A,AL base 1 (aK l).length ((aK l).map str) A∧e= .returned (gV (aK l).length A)∧H'=gH 9 ((aK l).map str) A):=by
 cases g with
 |none=>
  obtain⟨h1,h2⟩:=b0I G;subst h1;exact(bQ (bH func105 dE rfl) (fun w _=>Tryz.slices_Compact_string_empty none 0 w)).mono fun e N H' _ ⟨h1,_,h3⟩=>⟨none,⟨rfl,rfl⟩,h1,h3⟩
 |some q=>
  obtain⟨b,c,sp⟩:=q;obtain⟨O,Q,Z⟩:=G;rw[wO]at Q Z;have a0:=Lib.compact_length_le l;refine⟨bH func105 dE rfl,fun w M=>?_⟩;refine(Tryz.slices_Compact_string b 0 c l w (b2n (M.2.1 _ (.head _))) oM oM).mono fun e w' ⟨h1,n,h2⟩=>?_;have h3:=St.row (l':=aK l++dW (l.length-(aK l).length) []) n #[] M (by simp;omega);rw[Go.Sort.grow_empty,←h2,wG,yE]at h3;refine⟨I,_,h3,some (b,c,(dW (l.length-(aK l).length) []).map str++sp),⟨O,sI,by simp;omega⟩,h1,rfl⟩
theorem b8x{α:Type}(l:List α)(x:α):(l++[x]).length=l.length+1:=sI
def IU (l:List Ke.FN):List (List UInt8):=l.flatMap Ke.books
theorem b1t{fs:List Ke.FN}{k f}(h:fs[k]?=some f):IU (fs.take (k+1))=IU (fs.take k)++Ke.books f:=by
 obtain⟨A,G⟩:=xC.1 h;unfold IU;rw[tN A,G,xP];simp
def bk (l:List Ke.Sub):List (List UInt8):=l.filterMap Ke.book
theorem b7t{ss:List Ke.Sub}{k s}(h:ss[k]?=some s):bk (ss.take (k+1))=bk (ss.take k)++(Ke.book s).toList:=by
 obtain⟨A,G⟩:=xC.1 h;unfold bk;rw[tN A,G,List.filterMap_append];cases hb:Ke.book s<;>simp[hb]
theorem c1y l:(bk l).length≤l.length:=wQ _ _
theorem c2Z f:(Ke.books f).length≤f.subs.length:=by
 unfold Ke.books;split
 ·exact wQ _ _
 exact sQ _
theorem a3O:∀{l:List Ke.FN},(∀f∈l,f.subs.length≤2000000)→(IU l).length≤2000000*l.length
 |[],_=>sQ _
 |f::r,h=>by
  have h1:=c2Z f;have h2:=h f (.head _);have h3:=a3O fun g A=>h g (.tail _ A);unfold IU at h3 ⊢;simp only[xO,wV,wU];omega
theorem b7r{ss s}(h:s∈ss):s.text.length≤CZ ss:=by
 induction ss with
 |nil=>cases h
 |cons t r A=>
  unfold CZ at A ⊢;rw[wF,uI];rcases vX.1 h with rfl|h
  ·omega
  have:=A h;omega
theorem b2u s:(aT s).1.length≤s.length+13:=by
 have h:=b3z s;unfold aT dN
 split
 ·simp;omega
 split
 ·exact FD h (Nat.le_add_right _ _)
 exact sQ _
theorem b1Z{s}(h1:(aT s.text).2=true)(h2:((s.code.toNat:Int) == 97)=true):Ke.book s=some (Ke.b0E++(aT s.text).1):=by
 have h3:(s.code.toNat:Int)=97:=BP h2;exact zF ⟨h1,sJ.1 (by rw[show(97:UInt8).toNat=97 from rfl];omega)⟩
theorem a1S{s}(h:((aT s.text).2 && ((s.code.toNat:Int) == 97))=false):Ke.book s=none:=by
 refine zD fun⟨h1,h2⟩=>?_;rw[h1,h2]at h;exact absurd h dE
theorem b8w{l:List (List UInt8)}{x:List UInt8}(h:l[0]?=some x):l=x::l.tail:=by
 cases l with
 |nil=>simp at h
 |cons a r=>simp at h;subst h;rfl
theorem b1F{fs}(A:FOK fs):(Ke.title fs).length≤100000000:=by
 have h1:=a1p [50,52,53] A;have h2:=MF (Ke.first fs [50,52,53]) [97,98];have h3:=Ke.a4x (Ke.cut (Ke.textOf (Ke.first fs [50,52,53]) [97,98]) (Ke.skip (Ke.first fs [50,52,53]):Int));have G:(Ke.cut (Ke.textOf (Ke.first fs [50,52,53]) [97,98]) (Ke.skip (Ke.first fs [50,52,53]):Int)).length≤(Ke.textOf (Ke.first fs [50,52,53]) [97,98]).length:=by unfold Ke.cut;simp
 unfold Ke.title Ke.GL;omega
theorem d0T fs v rk rl (Q:FOK fs) I (hr:KC I fs v):yY aB 61 [a1A rk rl v] I [] (fun e I' H'=>∃w,e= .returned w∧IV 9 I' (Ke.all fs) w∧H'=[]):=by
 have bi:=Q.1;obtain⟨p,c,rfl,_,hp⟩:=id hr.1;have bj:=b1F Q;have bl:=a1p [49,48,48] Q;have bh:=MF (Ke.first fs [49,48,48]) [97];obtain⟨p1,_,c1,ar⟩:=a3P [49,48,48] hr;refine yY.YZ func61 rfl dE (tJ rfl) ?_;intro w0 _;refine yU 3 ?_;intro b1 _;refine yU 18 ?_;refine bM (ι:=Nat×Gs) (fun j=>j.1≤fs.length∧AL w0.heap.size 1 (IU (fs.take j.1)).length ((IU (fs.take j.1)).map str) j.2) (fun j=>fs.length-j.1) (fun j=>[(1,ptr b1 0),(3,gV (IU (fs.take j.1)).length j.2),(16,.slice p fs.length c),(17,i64 (fs.length:Int)),(18,i64 (j.1:Int))]) (fun j=>_) (fun j=>(b1,yV 45 [u8 rk,u8 rl,.slice p fs.length c])::gH 9 ((IU (fs.take j.1)).map str) j.2) (0,none) ⟨sQ _,rfl,rfl⟩ rT rfl rfl ?_;rintro⟨j,g⟩ ⟨hj,hg⟩;dsimp only at hj hg ⊢;have b5:=a3O (l:=fs.take j) fun f hf=>(Q.2 f (vO hf)).1;rw[wI,sW hj]at b5;refine yZ ?_ ?_<;>intro al au
 ·have am:j<fs.length:=oM;obtain⟨f,a7⟩:∃f,fs[j]?=some f:=⟨_,AA am⟩;have a0:=b1t a7;have an:=CJ a7;have bm:=Q.2 f an;obtain⟨p2,c2,ao,al,b6⟩:=hr.2 f an;obtain⟨fb,fo,_,_,_,sp,rfl,b7,b8⟩:=hp (zK am);refine zW (fo+j*4) ?_;refine aG (CX a1t KX (dM b7) (AY LK b8 a7)) ?_;refine yU 1 ?_;intro _ _;refine aY rfl (DV 0 rfl rfl rfl rfl rfl (PY ao) KX rfl rfl lsA cO ?_);refine yZ ?_ ?_<;>intro aa av
  ·have ab:Ke.books f=[]:=zD (bne_iff_ne.1 aa);refine yU 8 ?_;refine bC (aH (bG bI)) ?_;refine aV (j+1,g) ⟨dO,by dsimp only;rw[a0,ab,yD];exact hg⟩ dO ⟨rfl,by dsimp only;rw[a0,ab,yD];rfl,rfl,rfl,rfl,trivial⟩ rfl (by dsimp only;rw[a0,ab,yD])
  have b9:f.tag=[48,50,48]:=by have h:=aa;simpa using h
  refine yU 6 ?_;refine aP 26 (.slice p2 f.subs.length c2) rfl ao ?_;refine yU 5 ?_;refine dX (aH (bG bI)) ?_;refine bM (ι:=Nat×Gs) (fun k=>k.1≤f.subs.length∧AL w0.heap.size 1 (IU (fs.take j)++bk (f.subs.take k.1)).length ((IU (fs.take j)++bk (f.subs.take k.1)).map str) k.2) (fun k=>f.subs.length-k.1) (fun k=>[(1,ptr b1 0),(3,gV (IU (fs.take j)++bk (f.subs.take k.1)).length k.2),(16,.slice (some ⟨fb,fo,none⟩) fs.length c),(17,i64 (fs.length:Int)),(18,i64 (j:Int)),(26,.slice p2 f.subs.length c2),(27,i64 (f.subs.length:Int)),(28,i64 (k.1:Int))]) (fun k=>_) (fun k=>(b1,yV 45 [u8 rk,u8 rl,.slice (some ⟨fb,fo,none⟩) fs.length c])::gH 9 ((IU (fs.take j)++bk (f.subs.take k.1)).map str) k.2) (0,g) ⟨sQ _,by rw[show bk (f.subs.take 0)=[] from rfl,yD];exact hg⟩ ⟨rfl,by rw[show bk (f.subs.take 0)=[] from rfl,yD];rfl,rfl,rfl,rfl,rfl,rfl,rfl,trivial⟩ rfl (by rw[show bk (f.subs.take 0)=[] from rfl,yD]) ?_;rintro⟨k,h⟩ ⟨hk,hh⟩;dsimp only at hk hh ⊢;have ba:=c1y (f.subs.take k);rw[wI,sW hk]at ba;have bn:(IU (fs.take j)++bk (f.subs.take k)).length=(IU (fs.take j)).length+(bk (f.subs.take k)).length:=wV;refine yZ ?_ ?_<;>intro bb aw
  ·have ac:k<f.subs.length:=oM;obtain⟨x,a3⟩:∃x,f.subs[k]?=some x:=⟨_,AA ac⟩;obtain⟨_,so,_,_,_,_,rfl,ax,bc⟩:=b6 (zK ac);have M:=b7t a3;have bd:=b7r (CJ a3);have bo:=b2u x.text;refine zW (so+k*2) ?_;refine aG (CX isAgg89 a1G (dM ax) (AY JH bc a3)) ?_;refine yU 1 ?_;intro _ _;refine zO (b0S x.text oM _) ?_;refine EH ?_ ?_<;>intro ad
   ·have hi:(aT x.text).2=true:=ad;refine yZ ?_ ?_<;>intro ae ay
    ·have G:=b1Z hi ae;refine yU 3 ?_;refine aG (BQ rfl rfl rfl (by first|omega|(simp only[wV];omega)|(simp;omega))) ?_;refine yU 1 ?_;intro _ _;refine KT 15 [_,_,_] hh ?_;intro be az;refine yU 8 ?_;refine bC (aH (aH (bG bI))) ?_;refine aV (k+1,be) ⟨dO,by dsimp only;rw[M,G,aQ,←yE,wG,b8x];exact az⟩ dO ⟨rfl,by dsimp only;rw[M,G,aQ,←yE,b8x];rfl,rfl,rfl,rfl,rfl,rfl,rfl,trivial⟩ rfl (by dsimp only;rw[M,G,aQ,←yE,wG];rfl)
    have G:Ke.book x=none:=a1S (by rw[hi];exact ae);refine yU 7 ?_;refine bC (aH (bG bI)) ?_;refine aV (k+1,h) ⟨dO,by dsimp only;rw[M,G,aQ,yD];exact hh⟩ dO ⟨rfl,by dsimp only;rw[M,G,aQ,yD];rfl,rfl,rfl,rfl,rfl,rfl,rfl,trivial⟩ rfl (by dsimp only;rw[M,G,aQ,yD])
   have hi:(aT x.text).2=false:=ad;have G:Ke.book x=none:=a1S (by rw[hi];rfl);refine yU 14 ?_;refine bC (aH (bG bI)) ?_;refine aV (k+1,h) ⟨dO,by dsimp only;rw[M,G,aQ,yD];exact hh⟩ dO ⟨rfl,by dsimp only;rw[M,G,aQ,yD];rfl,rfl,rfl,rfl,rfl,rfl,rfl,trivial⟩ rfl (by dsimp only;rw[M,G,aQ,yD])
  have bf:f.subs.take k=f.subs:=tX oM;have af:IU (fs.take j)++Ke.books f=IU (fs.take j)++bk (f.subs.take k):=by rw[bf];unfold Ke.books;rw[zF b9];rfl
  refine yU 10 ?_;refine aV (j+1,h) ⟨dO,by dsimp only;rw[a0,af];exact hh⟩ dO ⟨rfl,by dsimp only;rw[a0,af];rfl,rfl,rfl,rfl,trivial⟩ rfl (by dsimp only;rw[a0,af])
 have a4:fs.take j=fs:=tX oM;refine zO (c5w fs _ rk rl Q _ hr) ?_;refine yZ ?_ ?_<;>intro a8 aj
 ·have hT:Ke.title fs≠[]:=bne_iff_ne.1 a8;refine zX (b8i fs _ rk rl [49,48,48] [97] Q _ hr) ?_;intro _ _ _ _ b0;obtain⟨h,rfl⟩:=b0;cases h;refine yU 4 ?_;intro _ _;refine yU 1 ?_;refine aY rfl (DV 0 rfl rfl rfl rfl rfl (PY ar) KX rfl rfl lsA cO ?_);refine yU 5 ?_;intro ap _;refine NG (a8f (Ke.textOf (Ke.first fs [49,48,48]) [97]) _) ?_;intro _ _ _ _ hn20 b2;obtain⟨sb,h,rfl⟩:=b2;cases h;refine J.persist (hn20 _ (.head _)) (fun I9 a9 Z=>?_);refine yU 3 ?_;refine Cj.rangeFunc (ps:=[62]) (H1:=[_]) (R:=(_::_::gH _ _ _)) ((dP (Ke.textOf (Ke.first fs [49,48,48]) [97])).map fun w=>[str w]) (fun k I' H'=>k=0∧H'=[(ap,yV 9 [str []])]) (fun cc I' H'=>cc= .exit 4∧∃x r,dP (Ke.textOf (Ke.first fs [49,48,48]) [97])=x::r∧H'=[(ap,yV 9 [str x])]) rfl (a2L rfl) (seq1 _ _) rfl (a5O sb _ oM _ Z) (fun _ _ _ _ _ h=>h) rT ?_ ?_ ?_
  ·intro l r k args _ _ _ hk a5 hY;have Z:=a5 _ _ Z;obtain⟨x,hx,rfl⟩:=b0p hk;obtain⟨rfl,rfl⟩:=hY;refine yU 3 ?_;refine Ej.asg ?_;refine yU 8 ?_;refine Ej.a1C rfl ?_;exact Ej.d0p ⟨rfl,x,_,b8w hx,rfl⟩
  ·intro _ I2 H2 a5 hY;have Z:=a5 _ _ Z;rw[wO]at hY;obtain⟨bg,rfl⟩:=hY;have ag:((dP (Ke.textOf (Ke.first fs [49,48,48]) [97])).head?.getD [])=[]:=by rw[wR.1 bg];rfl
   refine Ej.MN (dJ (cZ (aG zS ?_)));refine aG zS ?_;refine aG (BQ rfl rfl rfl (by first|omega|(simp only[wV];omega)|(simp;omega))) ?_;refine aG (BQ rfl rfl rfl (by first|omega|(simp only[wV];omega)|(simp;omega))) ?_;refine yU 1 ?_;refine aG (BQ rfl rfl rfl (by first|omega|(simp only[wV];omega)|(simp;omega))) ?_;refine yU 1 ?_;intro _ _;refine KT 15 [_,_,_,_,_] hg ?_;intro a1 b3;refine aG BI ?_;refine J.nss ?_;refine dX (aH (bG (aH (aH (aH bI))))) ?_;refine dV (H':=gH _ _ _++[_]) uQ ?_;have A:IU (fs.take j)++[[116,105,116,108,101,32]++Ke.title fs++[32,47,32]++[]]=Ke.raw fs:=by unfold Ke.raw Ke.UY;rw[a4,zD hT,ag];rfl
   have N:AL w0.heap.size 1 (Ke.raw fs).length ((Ke.raw fs).map str) a1:=by rw[←A,wG,wV];exact b3
   have O:(Ke.raw fs).length≤100000000000000:=by rw[←A];simp;omega
   refine cZ (aG zS ?_);refine J.eqv 72 rfl (show _=gV (Ke.raw fs).length a1 from(by rw[←A,wV];rfl)) ?_;rw[show gH 9 _ a1=gH 9 ((Ke.raw fs).map str) a1 from zC (fun l=>gH 9 l a1) (by rw[←A,wG];rfl)];refine aY rfl (zU (H1:=gH _ _ _) rfl rfl rfl rfl rfl (a7T (Ke.raw fs) _ N O _) ?_ (fun _ _ _ _ h=>by cases h.1) (fun _ _ h=>by cases h.1));rintro v9 I9 H9 a9 ⟨h,rfl⟩;cases h;refine yU 5 ?_;refine aP 74 (gV ((Ke.raw fs).mergeSort fun x y=>decide (x≤y)).length a1) rfl (by rw[wM,←A,wV];rfl) ?_;refine aY rfl (zU (H1:=gH _ _ _) rfl rfl rfl rfl rfl (a2w ((Ke.raw fs).mergeSort fun x y=>decide (x≤y)) _ (by rw[wM];exact PN N sI) (by rw[wM];exact O) _) ?_ (fun _ _ _ _ h=>by obtain⟨_,_,h,_⟩:=h;cases h) (fun _ _ h=>by obtain⟨_,_,h,_⟩:=h;cases h));rintro v8 I8 H8 ah ⟨g2,a6,h,rfl⟩;cases h;refine J.NV a6 (fun I7 ai hv=>?_);refine yU 4 ?_;refine dY (.inl rfl) ?_;refine PD.mark 0 rfl cO ?_;refine eP (aJ _) ?_;exact eU rfl rfl ⟨_,rfl,(by rw[show Ke.all fs=_ from(Ke.OX _).symm];exact hv),rfl⟩
  intro _ cc I2 H2 a5 hY;have Z:=a5 _ _ Z;obtain⟨rfl,x,r,aq,rfl⟩:=hY;have ag:((dP (Ke.textOf (Ke.first fs [49,48,48]) [97])).head?.getD [])=x:=by rw[aq];rfl
  have bd:=Ke.NY _ x (by rw[aq];exact List.mem_cons_self);refine Cj.exit (Ej.YW (dJ (cZ (aG zS ?_))));refine aG zS ?_;refine aG (BQ rfl rfl rfl (by first|omega|(simp only[wV];omega)|(simp;omega))) ?_;refine aG (BQ rfl rfl rfl (by first|omega|(simp only[wV];omega)|(simp;omega))) ?_;refine yU 1 ?_;refine aG (BQ rfl rfl rfl (by first|omega|(simp only[wV];omega)|(simp;omega))) ?_;refine yU 1 ?_;intro _ _;refine KT 15 [_,_,_,_,_] hg ?_;intro a2 b4;refine aG BI ?_;refine J.nss ?_;refine dX (aH (bG (aH (aH (aH bI))))) ?_;refine dV (H':=gH _ _ _++[_]) uQ ?_;have A:IU (fs.take j)++[[116,105,116,108,101,32]++Ke.title fs++[32,47,32]++x]=Ke.raw fs:=by unfold Ke.raw Ke.UY;rw[a4,zD hT,ag];rfl
  have N:AL w0.heap.size 1 (Ke.raw fs).length ((Ke.raw fs).map str) a2:=by rw[←A,wG,wV];exact b4
  have O:(Ke.raw fs).length≤100000000000000:=by rw[←A];simp;omega
  refine cZ (aG zS ?_);refine J.eqv 72 rfl (show _=gV (Ke.raw fs).length a2 from(by rw[←A,wV];rfl)) ?_;rw[show gH 9 _ a2=gH 9 ((Ke.raw fs).map str) a2 from zC (fun l=>gH 9 l a2) (by rw[←A,wG];rfl)];refine aY rfl (zU (H1:=gH _ _ _) rfl rfl rfl rfl rfl (a7T (Ke.raw fs) _ N O _) ?_ (fun _ _ _ _ h=>by cases h.1) (fun _ _ h=>by cases h.1));rintro v9 I9 H9 a9 ⟨h,rfl⟩;cases h;refine yU 5 ?_;refine aP 74 (gV ((Ke.raw fs).mergeSort fun x y=>decide (x≤y)).length a2) rfl (by rw[wM,←A,wV];rfl) ?_;refine aY rfl (zU (H1:=gH _ _ _) rfl rfl rfl rfl rfl (a2w ((Ke.raw fs).mergeSort fun x y=>decide (x≤y)) _ (by rw[wM];exact PN N sI) (by rw[wM];exact O) _) ?_ (fun _ _ _ _ h=>by obtain⟨_,_,h,_⟩:=h;cases h) (fun _ _ h=>by obtain⟨_,_,h,_⟩:=h;cases h));rintro v8 I8 H8 ah ⟨g2,a6,h,rfl⟩;cases h;refine J.NV a6 (fun I7 ai hv=>?_);refine yU 4 ?_;refine dY (.inl rfl) ?_;refine PD.mark 0 rfl cO ?_;refine eP (aJ _) ?_;exact eU rfl rfl ⟨_,rfl,(by rw[show Ke.all fs=_ from(Ke.OX _).symm];exact hv),rfl⟩
 have hT:Ke.title fs=[]:=by have h:=a8;simpa using h
 refine yU 3 ?_;refine dX (aH bI) ?_;refine dV (H':=gH _ _ _++[]) (by rw[yD]) ?_;have A:IU (fs.take j)=Ke.raw fs:=by unfold Ke.raw Ke.UY;rw[a4,zF hT,yD];rfl
 have N:AL w0.heap.size 1 (Ke.raw fs).length ((Ke.raw fs).map str) g:=by rw[←A];exact hg
 have O:(Ke.raw fs).length≤100000000000000:=by rw[←A];omega
 refine yU 2 ?_;refine aP 72 (gV (Ke.raw fs).length g) rfl (by rw[←A]) ?_;rw[show gH 9 _ g=gH 9 ((Ke.raw fs).map str) g from zC (fun l=>gH 9 l g) (by rw[←A])];refine aY rfl (zU (H1:=gH _ _ _) rfl rfl rfl rfl rfl (a7T (Ke.raw fs) _ N O _) ?_ (fun _ _ _ _ h=>by cases h.1) (fun _ _ h=>by cases h.1));rintro v9 I9 H9 a9 ⟨h,rfl⟩;cases h;refine yU 5 ?_;refine aP 74 (gV ((Ke.raw fs).mergeSort fun x y=>decide (x≤y)).length g) rfl (by rw[wM,←A]) ?_;refine aY rfl (zU (H1:=gH _ _ _) rfl rfl rfl rfl rfl (a2w ((Ke.raw fs).mergeSort fun x y=>decide (x≤y)) _ (by rw[wM];exact PN N sI) (by rw[wM];exact O) _) ?_ (fun _ _ _ _ h=>by obtain⟨_,_,h,_⟩:=h;cases h) (fun _ _ h=>by obtain⟨_,_,h,_⟩:=h;cases h));rintro v8 I8 H8 ah ⟨g2,a6,h,rfl⟩;cases h;refine J.NV a6 (fun I7 ai hv=>?_);refine yU 4 ?_;refine dY (.inl rfl) ?_;refine eP (aJ _) ?_;exact eU rfl rfl ⟨_,rfl,(by rw[show Ke.all fs=_ from(Ke.OX _).symm];exact hv),rfl⟩
end Go.Proofs.YtalapkjmkjmpjaaGreatDoor
end
namespace Go.Sx
open Go
@[reducible] def a9e:DR:=⟨true⟩
attribute [local instance] a9e
theorem yY.same{P f args I H v}(G:Enters P f)(h:∀w,Ready I H w→Calls P f args.toArray w fun e w'=>e= .returned v∧w'=w):yY P f args I H (fun e M H'=>e= .returned v∧M=I∧H'=H):=
 ⟨G,fun w A=>(h w A).mono fun _ w' ⟨h1,h2⟩=>⟨I,H,by subst h2;exact St.start w' I H A.1 A.2.1 A.2.2.1 A.2.2.2,h1,rfl,rfl⟩⟩
theorem yY.grows{P f args v}{A:Ending→Heap→HL→Prop}(h:yY P f args (fun _=>none) [] A)(G:∀e N H',A e N H'→e= .returned v) w:Calls P f args.toArray w fun e w'=>e= .returned v∧∃q O,w'=dA (w.drewN q) O:=
 have hr:Ready (fun _=>none) [] w:=by
  unfold Ready;exact⟨(fun b o hb=>by cases hb),(fun p G=>by cases G),bW,(fun p G=>by cases G)⟩
 (h.2 w hr).mono fun e w' ⟨N,H',M,hq⟩=>⟨G e N H' hq,w'.drawn-w.drawn,w'.heap.extract w.heap.size w'.heap.size,by
  have Q:w'.heap=w.heap++w'.heap.extract w.heap.size w'.heap.size:=by
   apply yT
   intro i;rw[Array.getElem?_append]
   split
   ·rename_i Z;exact M.frm i Z sI
   rename_i Z
   rw[Array.getElem?_extract]
   split
   ·congr 1;omega
   rw[yR oM]
  have h1:=M.os;have h2:=M.tape;have h3:=M.output;have h4:=M.drw rfl;have h5:w.drawn+(w'.drawn-w.drawn)=w'.drawn:=oM;unfold dA World.drewN;rw[h5];cases w';cases w;simp only at h1 h2 h3 Q ⊢;subst h1 h2 h3;rw[←Q]⟩
end Go.Sx
section
namespace Go.Proofs.YtalapkjmkjmpjaaGreatDoor
open _root_.Go.Proofs.Tryz
open Go Go.Sx
attribute [local instance] a9e
def LP (r s:Int):Int:=if r≠0 then r else s
section
open Go.Shelf Go.RowKit Go.Lib
theorem d0F b A G w (h0:w.cell? ⟨b,0,none⟩=some (.int .i64 A))(h1:w.cell? ⟨b,1,none⟩=some (.int .i64 G)):
 Calls aB 44 #[.slice (some ⟨b,0,none⟩) 2 2] w fun e w'=>e= .returned (.int .i64 (LP A G))∧w'=w:=by
 go_enter func44,eX
 go_wp2
 refine wp_loop_rounds 3 ?_;rw[rounds_succ]
 go_wp2
 ·have N:(A != 0)=true:=by assumption
  have M:LP A G=A:=zF (by simpa using N)
  go_ret
  exact⟨by rw[M];rfl,rfl⟩
 have N:(A != 0)=false:=by assumption
 have M:LP A G=G:=zD (by simpa using N);rw[rounds_succ]
 go_wp2
 ·go_ret
  exact⟨by rw[M];rfl,rfl⟩
 have Q:(G != 0)=false:=by assumption
 have O:G=0:=by simpa using Q
 rw[rounds_succ]
 go_wp2
 go_ret
 exact⟨by rw[M,O];rfl,rfl⟩
end
def LY (a b:List UInt8):Int:=if a<b then -1 else if b<a then 1 else 0
theorem c1m{a b:List UInt8}(h:¬a<b){t}(A:(!(decide (a<b) || a == b))=t):if t then b<a else ¬b<a:=by
 rw[zI h,eG]at A;subst A
 by_cases he:a=b
 ·subst he;simp
 have G:(a == b)=false:=by simpa using he
 rw[G];simp only[Bool.not_false,if_true];exact Std.lt_of_le_of_ne (Std.not_lt.1 h) (Ne.symm he)
theorem a7x b A G I:yY aB 44 [.slice (some ⟨b,0,none⟩) 2 2] I [(b,yV 3 [i64 A,i64 G])] (fun e M H'=>e= .returned (i64 (LP A G))∧M=I∧H'=[(b,yV 3 [i64 A,i64 G])]):=
 yY.same ⟨_,func44,dE,rfl⟩ fun w N=>by
  have O:=N.2.1 _ (.head _);refine d0F b A G w ?_ ?_<;>simp[fA,O,yV]
theorem a3f x y I:yY aB 75 [i64 x,i64 y] I [] (fun e A H'=>e= .returned (i64 (bJ x y))∧A=I∧H'=[]):=
 yY.same ⟨_,func75,dE,rfl⟩ fun w _=>Tryz.cmp_Compare_int x y w
theorem b7e(x0 x1 y0 y1:Int)(I:Heap):yY Tryz.prog 364 [.agg #[i64 x0,i64 x1],.agg #[i64 y0,i64 y1]] I [] (fun e _ H'=>e= .returned (i64 (LP (Lib.compareInt x0 y0) (Lib.compareInt x1 y1)))∧H'=[]):=by
 refine yY.ob func364 ?_;intro w0 hw0;refine Cj.sr (J.op rfl (KP rfl rfl rfl rfl rfl ?_));intro b1 hb1;refine J.op rfl (KP rfl rfl rfl rfl rfl ?_);intro b2 hb2;refine J.z BI ?_;refine J.nss ?_;refine Cj.EX [0,1] [] 13 (by kernel_rfl) ?_;refine JA.fix CP (fun fx3=>?_);refine JA.tk 0 rfl fx3 (zY (off':=0) underlying42 sizeOf3) ?_;refine JA.tk 1 rfl fx3 (BX isAgg3 (yX.NI 1 rfl)) ?_;refine JA.tk 2 rfl fx3 (zY (off':=0) underlying42 sizeOf3) ?_;refine JA.tk 3 rfl fx3 (BX isAgg3 (yX.NI 0 rfl)) ?_;refine JA.tk 5 rfl fx3 (zY (off':=1) underlying42 sizeOf3) ?_;refine JA.tk 6 rfl fx3 (BX isAgg3 (yX.NI 1 rfl)) ?_;refine JA.tk 7 rfl fx3 (zY (off':=1) underlying42 sizeOf3) ?_;refine JA.tk 8 rfl fx3 (BX isAgg3 (yX.NI 0 rfl)) ?_;refine qq2 4 rfl (zU (H1:=[]) rfl rfl rfl rfl rfl (a3f x0 y0 _) ?_ (fun _ _ _ _ h=>by cases h.1) (fun _ _ h=>by cases h.1));intro v4 I5 H6 hle7 hp8;obtain⟨h,rfl,rfl⟩:=hp8;cases h;refine yU 1 ?_;refine qq2 9 rfl (zU (H1:=[]) rfl rfl rfl rfl rfl (a3f x1 y1 _) ?_ (fun _ _ _ _ h=>by cases h.1) (fun _ _ h=>by cases h.1));intro v9 I10 H11 hle12 hp13;obtain⟨h,rfl,rfl⟩:=hp13;cases h;refine⟨⟨(Le.trans (Le.trans (Le.refl _) hle7) hle12),(HSub.c 0 rfl (HSub.c 1 rfl HSub.n)),CSub.n⟩,?_⟩;refine qq2 10 rfl (CY underlying50 sizeOf3 zeroValue3 (DC.one rfl (DC.one rfl DC.none)) ?_);intro b14 hb14;refine⟨⟨(Le.trans (Le.trans (Le.refl _) hle7) hle12),(HSub.c 1 rfl (HSub.c 2 rfl HSub.n)),CSub.n⟩,?_⟩;refine JA.pull Pull.z ?_;refine qq2 11 rfl (zU (H1:=[_]) rfl rfl rfl rfl rfl (a7x _ (Lib.compareInt x0 y0) (Lib.compareInt x1 y1) _) ?_ (fun _ _ _ _ h=>by cases h.1) (fun _ _ h=>by cases h.1));intro v15 I16 H17 hle18 hp19;obtain⟨h,rfl,rfl⟩:=hp19;cases h;refine⟨⟨(Le.trans (Le.trans (Le.trans (Le.refl _) hle7) hle12) hle18),(HSub.c 1 rfl (HSub.c 2 rfl HSub.n)),CSub.n⟩,?_⟩;refine JA.fix CP (fun fx20=>?_);refine JA.tk 12 rfl fx20 BI ?_;refine JA.done (by kernel_rfl) ?_;refine Ej.seq (Cj.ret ?_);refine zV ?_;exact⟨rfl,rfl⟩
theorem b1H s I:yY aB 327 [str s] I [] (fun e A H'=>e= .returned (.bool false)∧A=I∧H'=[]):=by
 refine yY.ob func327 ?_;intro w0 _;refine Cj.sr (aG BI ?_);refine J.ER (aG zS ?_);refine aG zS ?_;refine aG (b2x rfl rfl rfl) ?_;refine aG BI ?_;refine J.ns (dU ?_);refine zM ?_;exact⟨by rw[bne_self_eq_false],rfl,rfl⟩
theorem b6R a b I:yY aB 342 [str a,str b] I [] (fun e Q H'=>e= .returned (i64 (LY a b))∧Q=I∧H'=[]):=by
 refine yY.ob func342 ?_;intro w0 _;refine Cj.sr (aG BI ?_);refine J.ER (aG zS ?_);refine aY rfl (zU (H1:=[]) rfl rfl rfl rfl rfl (b1H a _) ?_ (fun _ _ _ _ h=>by cases h.1) (fun _ _ h=>by cases h.1));intro _ _ _ _ O;obtain⟨h,rfl,rfl⟩:=O;cases h;refine aG BI ?_;refine J.ER (aG zS ?_);refine aY rfl (zU (H1:=[]) rfl rfl rfl rfl rfl (b1H b _) ?_ (fun _ _ _ _ h=>by cases h.1) (fun _ _ h=>by cases h.1));intro _ _ _ _ N;obtain⟨h,rfl,rfl⟩:=N;cases h;refine aG BI ?_;refine J.a2t (cZ (aG zS ?_));refine J.c0 (fun _=>?_);refine Cj.skip (dJ (Cj.seq (Cj.sr (aG zS ?_))));refine J.c0 (fun _=>?_);refine Cj.skip (dJ (Cj.seq (Cj.sr (aG zS ?_))));refine aG zS ?_;refine aG (a0i rfl rfl rfl) ?_;refine DF ?_ ?_<;>intro G
 ·have A:=zA G;refine Cj.sr (aG BI ?_);refine J.ns (dU (Ej.a2U ?_));refine zM ?_;rw[LY,zF A];exact rT
 have A:=of_decide_eq_false G;refine Cj.skip (dJ (Cj.seq (Cj.sr (aG zS ?_))));refine aG zS ?_;refine aG (c0V rfl rfl rfl) ?_;refine DF ?_ ?_<;>intro M
 ·refine Cj.sr (aG BI ?_);refine J.ns (dU (Ej.a2U ?_));refine zM ?_;rw[LY,zD A,zF (by have h:=c1m A M;simpa using h)];exact rT
 refine Cj.skip (dJ (Cj.sr (aG BI ?_)));refine J.ns (dU ?_);refine zM ?_;rw[LY,zD A,zD (by have h:=c1m A M;simpa using h)];exact rT
theorem c3C a b n m I:yY aB 341 [.agg #[str a,i64 n],.agg #[str b,i64 m]] I [] (fun e _ H'=>e= .returned (i64 (LY a b))∧H'=[]):=by
 refine yY.ob func341 ?_;intro w0 _;refine Cj.sr (aY rfl (KP rfl rfl rfl rfl rfl ?_));intro _ _;refine aY rfl (KP rfl rfl rfl rfl rfl ?_);intro _ _;refine aG BI ?_;refine J.ER (aG (zY (off':=0) underlying56 sizeOf9) ?_);refine aG (BX isAgg9 (yX.at 1 rfl)) ?_;refine aG (zY (off':=0) underlying56 sizeOf9) ?_;refine aG (BX isAgg9 (yX.at 0 rfl)) ?_;refine aY rfl (zU (H1:=[]) rfl rfl rfl rfl rfl (b6R a b _) ?_ (fun _ _ _ _ h=>by cases h.1) (fun _ _ h=>by cases h.1));intro _ _ _ _ A;obtain⟨h,rfl,rfl⟩:=A;cases h;refine aG BI ?_;refine J.ns (dU ?_);refine zV ?_;exact rT
theorem b6X x0 x1 y0 y1 w:Calls aB 364 #[.agg #[i64 x0,i64 x1],.agg #[i64 y0,i64 y1]] w fun e w'=>e= .returned (i64 (LP (bJ x0 y0) (bJ x1 y1)))∧∃q A,w'=dA (w.drewN q) A:=
 yY.grows (b7e x0 x1 y0 y1 _) (fun _ _ _ h=>h.1) w
theorem c4I a b n m w:Calls aB 341 #[.agg #[str a,i64 n],.agg #[str b,i64 m]] w fun e w'=>e= .returned (i64 (LY a b))∧∃q A,w'=dA (w.drewN q) A:=
 yY.grows (c3C a b n m _) (fun _ _ _ h=>h.1) w
end Go.Proofs.YtalapkjmkjmpjaaGreatDoor
end
section
namespace Go.Proofs.YtalapkjmkjmpjaaGreatDoor
open _root_.Go.Proofs.Tryz
open Go Go.Sx
attribute [local instance] a9e
section
open Go.Shelf Go.RowKit Go.Lib
theorem d0d b M A G w (h0:w.cell? ⟨b,0,none⟩=some (.int .i64 M))(h1:w.cell? ⟨b,1,none⟩=some (.int .i64 A))(h2:w.cell? ⟨b,2,none⟩=some (.int .i64 G)):
 Calls aB 44 #[.slice (some ⟨b,0,none⟩) 3 3] w fun e w'=>e= .returned (.int .i64 (LP M (LP A G)))∧w'=w:=by
 go_enter func44,eX
 go_wp2
 refine wp_loop_rounds 4 ?_;rw[rounds_succ]
 go_wp2
 ·have Q:(M != 0)=true:=by assumption
  have N:LP M (LP A G)=M:=zF (by simpa using Q)
  go_ret
  exact⟨by rw[N];rfl,rfl⟩
 have Q:(M != 0)=false:=by assumption
 have N:LP M (LP A G)=LP A G:=zD (by simpa using Q);rw[rounds_succ]
 go_wp2
 ·have Z:(A != 0)=true:=by assumption
  have O:LP A G=A:=zF (by simpa using Z)
  go_ret
  exact⟨by rw[N,O];rfl,rfl⟩
 have Z:(A != 0)=false:=by assumption
 have O:LP A G=G:=zD (by simpa using Z);rw[rounds_succ]
 go_wp2
 ·go_ret
  exact⟨by rw[N,O];rfl,rfl⟩
 have ht:(G != 0)=false:=by assumption
 have a0:G=0:=by simpa using ht
 rw[rounds_succ]
 go_wp2
 go_ret
 exact⟨by rw[N,O,a0];rfl,rfl⟩
end
theorem c2S b A G M I:yY aB 44 [.slice (some ⟨b,0,none⟩) 3 3] I [(b,yV 3 [i64 A,i64 G,i64 M])] (fun e N H'=>e= .returned (i64 (LP A (LP G M)))∧N=I∧H'=[(b,yV 3 [i64 A,i64 G,i64 M])]):=
 yY.same ⟨_,func44,dE,rfl⟩ fun w O=>by
  have Q:=O.2.1 _ (.head _);refine d0d b A G M w ?_ ?_ ?_<;>simp[fA,Q,yV]
theorem a6M:∀a b:List UInt8,dQ a b=LY a b
 |[],[]=>rfl
 |[],_::_=>rfl
 |_::_,[]=>rfl
 |a::u,b::v=>by
  have N:=a6M u v;unfold dQ LY;rw[N];unfold LY
  by_cases h1:a<b
  ·rw[zF h1,zF (aU.2 (.inl h1))]
  rw[zD h1]
  by_cases h2:b<a
  ·have A:a≠b:=fun e=>by subst e;exact h1 h2
   rw[zF h2,zD (fun g=>(aU.1 g).elim h1 fun g=>A g.1),zF (aU.2 (.inl h2))]
  have O:a=b:=sJ.1 (by have:=eY.1 h1;have:=eY.1 h2;rw[UInt8.le_iff_toNat_le]at *;omega);subst O;rw[zD h2];have G:(a::u<a::v)↔u<v:=by rw[aU];simp[h1]
  have M:(a::v<a::u)↔v<u:=by rw[aU];simp[h1]
  by_cases g1:u<v
  ·rw[zF g1,zF (G.2 g1)]
  rw[zD g1,zD (fun g=>g1 (G.1 g))]
  by_cases g2:v<u
  ·rw[zF g2,zF (M.2 g2)]
  rw[zD g2,zD (fun g=>g2 (M.1 g))]
theorem a9O a b I:yY aB 32 [str a,str b] I [] (fun e A H'=>e= .returned (i64 (LY a b))∧A=I∧H'=[]):=
 yY.same ⟨_,func32,dE,rfl⟩ fun w _=>by
  have h:=Tryz.strings_Compare ⟨a.toArray⟩ ⟨b.toArray⟩ w;rw[show(⟨a.toArray⟩:ByteArray).data.toList=a by simp,show(⟨b.toArray⟩:ByteArray).data.toList=b by simp,a6M]at h;exact h
theorem c5j(a b:List UInt8)(x0 x1 y0 y1:Int)(I:Heap):yY Tryz.prog 121 [.agg #[str a,i64 x0,i64 x1],.agg #[str b,i64 y0,i64 y1]] I [] (fun e _ H'=>e= .returned (i64 (LP (LY a b) (LP (Lib.compareInt x0 y0) (Lib.compareInt x1 y1))))∧H'=[]):=by
 refine yY.ob func121 ?_;intro w0 hw0;refine Cj.sr (J.op rfl (KP rfl rfl rfl rfl rfl ?_));intro b1 hb1;refine J.op rfl (KP rfl rfl rfl rfl rfl ?_);intro b2 hb2;refine J.z BI ?_;refine J.nss ?_;refine Cj.EX [0,1] [] 22 (by kernel_rfl) ?_;refine JA.fix CP (fun fx3=>?_);refine JA.tk 0 rfl fx3 (zY (off':=0) underlying221 sizeOf9) ?_;refine JA.tk 1 rfl fx3 (BX isAgg9 (yX.NI 1 rfl)) ?_;refine JA.tk 2 rfl fx3 (zY (off':=0) underlying221 sizeOf9) ?_;refine JA.tk 3 rfl fx3 (BX isAgg9 (yX.NI 0 rfl)) ?_;refine JA.tk 5 rfl fx3 (zY (off':=1) underlying221 sizeOf42) ?_;refine JA.tk 6 rfl fx3 (zY (off':=1) underlying42 sizeOf3) ?_;refine JA.tk 7 rfl fx3 (BX isAgg3 (yX.NI 1 rfl)) ?_;refine JA.tk 8 rfl fx3 (zY (off':=1) underlying221 sizeOf42) ?_;refine JA.tk 9 rfl fx3 (zY (off':=1) underlying42 sizeOf3) ?_;refine JA.tk 10 rfl fx3 (BX isAgg3 (yX.NI 0 rfl)) ?_;refine JA.tk 12 rfl fx3 (zY (off':=1) underlying221 sizeOf42) ?_;refine JA.tk 13 rfl fx3 (zY (off':=2) underlying42 sizeOf3) ?_;refine JA.tk 14 rfl fx3 (BX isAgg3 (yX.NI 1 rfl)) ?_;refine JA.tk 15 rfl fx3 (zY (off':=1) underlying221 sizeOf42) ?_;refine JA.tk 16 rfl fx3 (zY (off':=2) underlying42 sizeOf3) ?_;refine JA.tk 17 rfl fx3 (BX isAgg3 (yX.NI 0 rfl)) ?_;refine qq2 4 rfl (zU (H1:=[]) rfl rfl rfl rfl rfl (a9O a b _) ?_ (fun _ _ _ _ h=>by cases h.1) (fun _ _ h=>by cases h.1));intro v4 I5 H6 hle7 hp8;obtain⟨h,rfl,rfl⟩:=hp8;cases h;refine yU 1 ?_;refine qq2 11 rfl (zU (H1:=[]) rfl rfl rfl rfl rfl (a3f x0 y0 _) ?_ (fun _ _ _ _ h=>by cases h.1) (fun _ _ h=>by cases h.1));intro v9 I10 H11 hle12 hp13;obtain⟨h,rfl,rfl⟩:=hp13;cases h;refine yU 1 ?_;refine qq2 18 rfl (zU (H1:=[]) rfl rfl rfl rfl rfl (a3f x1 y1 _) ?_ (fun _ _ _ _ h=>by cases h.1) (fun _ _ h=>by cases h.1));intro v14 I15 H16 hle17 hp18;obtain⟨h,rfl,rfl⟩:=hp18;cases h;refine⟨⟨(Le.trans (Le.trans (Le.trans (Le.refl _) hle7) hle12) hle17),(HSub.c 0 rfl (HSub.c 1 rfl HSub.n)),CSub.n⟩,?_⟩;refine qq2 19 rfl (CY underlying50 sizeOf3 zeroValue3 (DC.one rfl (DC.one rfl (DC.one rfl DC.none))) ?_);intro b19 hb19;refine⟨⟨(Le.trans (Le.trans (Le.trans (Le.refl _) hle7) hle12) hle17),(HSub.c 1 rfl (HSub.c 2 rfl HSub.n)),CSub.n⟩,?_⟩;refine JA.pull Pull.z ?_;refine qq2 20 rfl (zU (H1:=[_]) rfl rfl rfl rfl rfl (c2S _ (LY a b) (Lib.compareInt x0 y0) (Lib.compareInt x1 y1) _) ?_ (fun _ _ _ _ h=>by cases h.1) (fun _ _ h=>by cases h.1));intro v20 I21 H22 hle23 hp24;obtain⟨h,rfl,rfl⟩:=hp24;cases h;refine⟨⟨(Le.trans (Le.trans (Le.trans (Le.trans (Le.refl _) hle7) hle12) hle17) hle23),(HSub.c 1 rfl (HSub.c 2 rfl HSub.n)),CSub.n⟩,?_⟩;refine JA.fix CP (fun fx25=>?_);refine JA.tk 21 rfl fx25 BI ?_;refine JA.done (by kernel_rfl) ?_;refine Ej.seq (Cj.ret ?_);refine zV ?_;exact⟨rfl,rfl⟩
theorem c7S a b x0 x1 y0 y1 w:Calls aB 121 #[.agg #[str a,i64 x0,i64 x1],.agg #[str b,i64 y0,i64 y1]] w fun e w'=>e= .returned (i64 (LP (LY a b) (LP (bJ x0 y0) (bJ x1 y1))))∧∃q A,w'=dA (w.drewN q) A:=
 yY.grows (c5j a b x0 x1 y0 y1 _) (fun _ _ _ h=>h.1) w
