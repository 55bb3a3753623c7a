/-
  Own texts on the laws of the seat, joined: the logic, and contracts of functions. Conditions: none.
-/
import Derived.Test.YtalapkjmkjmpjaaGreatDoorNmK
import Derived.Test.YtalapkjmkjmpjaaGreatDoorPK7
import Derived.Lib.FieldsP
set_option linter.all false
set_option maxRecDepth 100000
set_option maxHeartbeats 40000000
open Ke renaming strip -> aA,runes -> aB,words -> aC,KF -> aG,join -> aH,cut -> aJ,rows -> aN,digit -> aV,digits -> aY,KW -> aZ,TD -> bJ,tab -> bQ
open UInt8 renaming ofNat -> aF,le_iff_toNat_le -> bG
open Nat renaming one_le_iff_ne_zero -> aI,lt_irrefl -> bY
open Go.Utf8 renaming decode -> aK
open Go.Sx.Ej renaming round -> aO,keep -> bV
open List renaming getD_cons_zero -> aP,getD_cons_succ -> aQ,getD_nil -> bC,drop_succ_cons -> bH,map_congr_left -> bI,length_tail -> bP,filter_map -> bT,drop_one -> bW
open Go.Sx.J renaming ez -> aS,z -> aT
open Go.Proofs.Tryz renaming prog -> aU
open Go.Sx.Cj renaming loop -> aW
open Go.Conv renaming runesFrom -> aX
open Function renaming comp_def -> bD
open Ne renaming symm -> bF
open Go.Value renaming int -> bK
open Go.Sx.Keeps renaming d -> bM,r -> bZ
open Go.Sx.yX renaming YR -> bU
section
namespace Go.Proofs.YtalapkjmkjmpjaaGreatDoor
open _root_.Go.Proofs.Tryz
open Go Go.Sx
def FI (I:Heap) (l:List (List UInt8)) (v:Value):Prop:=∃p c,v= .slice p l.length c∧l.length≤c∧(l≠[]→∃b o cs t fr sp,p=some ⟨b,o,none⟩∧I b=some (.cells (List.toArray cs) t fr)∧cs.drop o=l.map str++sp)
theorem GR{cs sp:List Value}{o}{l:List (List UInt8)}(h:cs.drop o=l.map str++sp){k x}(A:l[k]?=some x):cs[o+k]?=some (str x):=by
 rw[←xH,h];exact EL A
theorem FI.of{I l v}(h:IV 9 I l v):FI I l v:=by
 rcases h with⟨rfl,rfl⟩|⟨b,c,sp,rfl,A,G⟩
 ·exact⟨none,0,rfl,tH _,fun h=>absurd rfl h⟩
 exact⟨_,c,rfl,A,fun _=>⟨b,0,_,_,_,sp,rfl,G,rfl⟩⟩
theorem FI.mono{I A l v}(h:FI I l v)(G:Le I A):FI A l v:=
 let ⟨p,c,h1,h2,h3⟩:=h;⟨p,c,h1,h2,fun M=>let ⟨b,o,cs,t,fr,sp,N,O,Q⟩:=h3 M;⟨b,o,cs,t,fr,sp,N,G _ _ O,Q⟩⟩
theorem take_same{α:Type}{a b:List α}{k x}(h:a.take k=b.take k)(h1:a[k]?=some x)(h2:b[k]?=some x):a.take (k+1)=b.take (k+1):=by
 obtain⟨A,G⟩:=xC.1 h1;obtain⟨M,N⟩:=xC.1 h2;rw[tN A,tN M,h,G,N]
theorem WY{l:List (List UInt8)}{k x}(h:l[k]?=some x):aH (l.take (k+1))=(if 0<k then aH (l.take k)++[32]else aH (l.take k))++x:=by
 have key:∀(a:List (List UInt8)) (x:List UInt8),aH (a++[x])=(if 0<a.length then aH a++[32]else aH a)++x:=by
  intro a x
  induction a with
  |nil=>rfl
  |cons b r G=>
   cases r with
   |nil=>simp[aH]
   |cons c t=>
    have h1:aH (b::c::t++[x])=b++[32]++aH (c::t++[x]):=rfl;rw[h1,G,zF sI,zF sI];simp[aH]
 obtain⟨A,M⟩:=xC.1 h;rw[tN A,M,key,wI,sW oM]
theorem a1W l k:(aH (l.take k)).length≤(aH l).length:=by
 have key:∀a b:List (List UInt8),(aH a).length≤(aH (a++b)).length:=by
  intro a b
  induction a with
  |nil=>exact sQ _
  |cons x r A=>
   cases r with
   |nil=>
    cases b with
    |nil=>exact tH _
    |cons y t=>simp only[aH,yC,vM,wV];omega
   |cons y t=>
    simp only[aH,yC,wV]at A ⊢;omega
 have:=key (l.take k) (l.drop k)
 rwa [uD]at this
theorem c3p{s:List UInt8}{k c}(h:(s.take k).all aV=true)(A:s[k]?=some c)(M:aV c=true):(s.take (k+1)).all aV=true:=by
 obtain⟨G,A⟩:=xC.1 A;rw[tN G,A,List.all_append,h];simp[M]
theorem a9P{s}{k:Nat}{c}(A:s[k]?=some c)(G:¬aV c=true):aY s=false:=by
 rcases h:aY s with _|_
 ·rfl
 exact absurd (yG.1 h c (CJ A)) G
theorem c5d{s:List UInt8}{k c d}(h:c ∉ s.take k)(A:s[k]?=some d)(M:d≠c):c ∉ s.take (k+1):=by
 obtain⟨G,A⟩:=xC.1 A;rw[tN G,A];simp only[wB,vN];rintro(e|e)
 ·exact h e
 exact M e.symm
theorem b6n{r}(h:r≠[]):aA (48::r)=aA r:=by
 cases r with
 |nil=>exact absurd rfl h
 |cons a t=>
  unfold aA;have h1:(48::a::t).length-1=(a::t).length-1+1:=rfl;rw[h1,bH];rfl
theorem UF{x}(h:x.length≤1∨∃c r,x=c::r∧c≠48):aA x=x:=by
 rcases h with h|⟨c,r,rfl,A⟩
 ·match x,h with
  |[],_=>rfl
  |[a],_=>rfl
 cases r with
 |nil=>rfl
 |cons a t=>
  have h1:(c::a::t).dropLast=c::(a::t).dropLast:=rfl;have h2:(c::a::t).length-1=(a::t).length-1+1:=rfl;unfold aA;rw[h1,List.dropWhile_cons_of_neg (by simpa using A),h2,bH,yC]
  congr 1
  rw[List.dropLast_eq_take,uD]
theorem c6d{l:List UInt8}{x:UInt8}(h:l[0]?=some x):l=x::l.tail:=by
 cases l with
 |nil=>simp at h
 |cons a r=>simp at h;subst h;rfl
theorem c8U a b va vb (ac:a.length≤100000000000000) I (ha:FI I a va)(hb:FI I b vb):Pure aU 300 [va,vb] I (.bool (decide (a=b))):=by
 obtain⟨p,c,rfl,_,hp⟩:=ha;obtain⟨q,d,rfl,_,hq⟩:=hb;refine zN func300 fun w0 _=>?_;refine yZ ?_ ?_<;>intro G a0
 ·have a3:a.length≠b.length:=fun e=>(bne_iff_ne.1 G) (by rw[e]);refine zM ?_;have M:decide (a=b)=false:=zI (fun e=>a3 (by rw[e]));rw[M];exact rT
 have ab:a.length=b.length:=by have h:=G;simp at h;omega
 refine yU 9 ?_;refine aW (ι:=Nat) (fun j=>j≤a.length∧a.take j=b.take j) (fun j=>a.length-j) (fun j=>[(0,.slice p a.length c),(1,.slice q b.length d),(5,i64 (j:Int))]) (fun j=>I) (fun j=>[]) 0 ⟨sQ _,rfl⟩ rT rfl rfl ?_;rintro j ⟨_,N⟩;refine yZ ?_ ?_<;>intro a4 a1
 ·have Z:j<a.length:=oM;obtain⟨x,O⟩:∃x,a[j]?=some x:=⟨_,AA Z⟩;obtain⟨y,A⟩:∃y,b[j]?=some y:=⟨_,AA oM⟩;obtain⟨_,ao,_,_,_,_,rfl,a5,a6⟩:=hp (zK Z);obtain⟨_,bo,DJ,_,_,_,rfl,a7,a8⟩:=hq (zK (k:=j) oM);refine yU 5 ?_;refine Cj.EX [] [] 9 kR ?_;refine zW (ao+j) ?_;refine JA.zt 3 rfl (DI DU (yX.RU a5) (GR a6 O)) ?_;refine zW (bo+j) ?_;refine JA.zt 7 rfl (DI DU (yX.RU a7) (GR a8 A)) ?_;refine yZ ?_ ?_<;>intro Q a2
  ·have a9:x≠y:=bne_iff_ne.1 Q;refine zM ?_;have M:decide (a=b)=false:=zI (fun e=>by subst e;rw[O]at A;exact a9 (sK A));rw[M];exact rT
  have aa:y=x:=by have h:=Q;simp at h;exact h.symm
  refine yU 8 ?_;refine aO (j+1) ⟨oM,take_same N O (aa▸A)⟩ oM rT rfl rfl
 refine zM ?_;have M:decide (a=b)=true:=zH (by rw[tX oM,tX oM]at N;exact N);rw[M];exact rT
theorem a8a l v (hl:l.length≤100000000000000)(hs:(aH l).length≤1000000000000) I (hv:FI I l v):Pure aU 228 [v] I (str (aH l)):=by
 obtain⟨p,c,rfl,_,hp⟩:=hv;refine zN func228 fun w0 _=>?_;refine yU 17 ?_;refine aW (ι:=Nat) (fun j=>j≤l.length) (fun j=>l.length-j) (fun j=>[(0,.slice p l.length c),(3,str (aH (l.take j))),(4,i64 (j:Int))]) (fun j=>I) (fun j=>[]) 0 (sQ _) rT rfl rfl ?_;intro j _;have a5:=a1W l j;have a4:=a1W l (j+1);refine yZ ?_ ?_<;>intro a3 a1
 ·have Q:j<l.length:=oM;obtain⟨x,M⟩:∃x,l[j]?=some x:=⟨_,AA Q⟩;obtain⟨lb,lo,_,_,_,sp,rfl,Z,a0⟩:=hp (zK Q);have A:=zC List.length (WY M);rw[wV]at A;refine yZ ?_ ?_<;>intro N a2
  ·have G:0<j:=by have h:=DK N;omega
   refine yU 2 ?_;refine aT (BQ rfl rfl rfl (by rw[zF G,wV]at A;simp only[wU,wL]at A ⊢;omega)) ?_;refine zW (lo+j) ?_;refine aT (DI DU (bU Z) (GR a0 M)) ?_;refine aT (BQ rfl rfl rfl (by first|(rw[zF G,wV]at A;simp only[wV,wU,wL]at A ⊢;omega)|(rw[zD G]at A;omega))) ?_;refine yU 9 ?_;refine aO (j+1) oM oM ⟨rfl,by rw[WY M,zF G];rfl,rfl,trivial⟩ rfl rfl
  have G:¬0<j:=by have h:=DN N;omega
  refine zW (lo+j) ?_;refine aT (DI DU (bU Z) (GR a0 M)) ?_;refine aT (BQ rfl rfl rfl (by first|(rw[zF G,wV]at A;simp only[wV,wU,wL]at A ⊢;omega)|(rw[zD G]at A;omega))) ?_;refine yU 9 ?_;refine aO (j+1) oM oM ⟨rfl,by rw[WY M,zD G];rfl,rfl,trivial⟩ rfl rfl
 have O:l.take j=l:=tX oM;refine zM ?_;rw[O];exact rT
theorem a8N s (hs:s.length≤1000000000000) I:Pure aU 226 [str s] I (.bool (aY s)):=by
 refine zN func226 fun w0 _=>?_;refine yU 12 ?_;refine aW (ι:=Nat) (fun j=>j≤s.length∧(s.take j).all aV=true) (fun j=>s.length-j) (fun j=>[(0,str s),(3,i64 (j:Int))]) (fun j=>I) (fun j=>[]) 0 ⟨sQ _,rfl⟩ rT rfl rfl ?_;rintro j ⟨_,G⟩;refine yZ ?_ ?_<;>intro a0 Q
 ·have a1:j<s.length:=oM;obtain⟨c,A⟩:∃c,s[j]?=some c:=⟨_,AA a1⟩;refine yU 8 ?_;refine aT (IC AV A) ?_;refine EH ?_ ?_<;>intro M
  ·have N:¬aV c=true:=fun e=>by have h1:=bJ.1 e;have h:=DK M;omega
   refine zM ?_;rw[a9P A N];exact rT
  have a2:=DN M;refine yU 2 ?_;refine J.zg (IC AV A) ?_;refine yZ ?_ ?_<;>intro O Z
  ·have N:¬aV c=true:=fun e=>by have h1:=bJ.1 e;have h:=DK O;omega
   refine zM ?_;rw[a9P A N];exact rT
  have hd:aV c=true:=bJ.2 (by have h:=DN O;omega);refine yU 8 ?_;refine aO (j+1) ⟨oM,c3p G A hd⟩ oM rT rfl rfl
 refine zM ?_;have he:aY s=true:=by rw[tX oM]at G;exact G
 rw[he];exact rT
theorem d0H s d (hs:s.length≤1000000000000) I:Pure aU 231 [str s,u8 d] I (.bool (s.contains d)):=by
 refine zN func231 fun w0 _=>?_;refine yU 12 ?_;refine aW (ι:=Nat) (fun j=>j≤s.length∧d ∉ s.take j) (fun j=>s.length-j) (fun j=>[(0,str s),(1,u8 d),(5,i64 (j:Int))]) (fun j=>I) (fun j=>[]) 0 ⟨sQ _,sI⟩ rT rfl rfl ?_;rintro j ⟨_,G⟩;refine yZ ?_ ?_<;>intro Z N
 ·have a0:j<s.length:=oM;obtain⟨c,A⟩:∃c,s[j]?=some c:=⟨_,AA a0⟩;refine yU 8 ?_;refine aT (IC AV A) ?_;refine yZ ?_ ?_<;>intro M O
  ·have he:c=d:=sJ.1 (by have h:=BP M;omega);refine zM ?_;have Q:s.contains d=true:=by simpa using he▸CJ A
   rw[Q];exact rT
  have a1:c≠d:=fun e=>CB M (by rw[e]);refine yU 8 ?_;refine aO (j+1) ⟨oM,c5d G A a1⟩ oM rT rfl rfl
 refine zM ?_;have Q:s.contains d=false:=by rw[tX oM]at G;simpa using G
 rw[Q];exact rT
theorem c3I s (hs:s.length≤1000000000000) I:Pure aU 227 [str s] I (str (Ke.number s)):=by
 refine zN func227 fun w0 _=>?_;refine yU 7 ?_;refine aW (ι:=List UInt8) (fun x=>aA x=aA s∧x.length≤s.length) (fun x=>x.length) (fun x=>[(0,str x)]) (fun x=>I) (fun x=>[]) s ⟨rfl,tH _⟩ rT rfl rfl ?_;rintro x ⟨G,_⟩;refine EH ?_ ?_<;>intro N
 ·have Z:1<x.length:=by have h:=DK N;omega
  obtain⟨c,O⟩:∃c,x[0]?=some c:=⟨_,AA oM⟩;have M:x=c::x.tail:=c6d O;have a1:x.tail≠[]:=fun e=>by rw[M,e]at Z;simp at Z
  refine yU 1 ?_;refine J.zg (IC AV O) ?_;refine yZ ?_ ?_<;>intro Q a0
  ·have a2:x=48::x.tail:=by have h:=BP Q;rw[show c=48 from sJ.1 (by rw[show(48:UInt8).toNat=48 from rfl];omega)]at M;exact M
   refine yU 5 ?_;refine aT (AO (p:=1) (q:=x.length) rfl rfl AV ⟨_,rfl⟩ rfl oM oM) ?_;refine aS 13 (str x.tail) rfl (by rw[tY,bW]) ?_;refine yU 3 ?_;refine aO x.tail ⟨by rw[←G,a2,b6n a1];rfl,by rw[bP];omega⟩ (by rw[bP];omega) rT rfl rfl
  have A:x.length≤1∨∃c r,x=c::r∧c≠48:= .inr ⟨c,_,M,fun e=>CB Q (by rw[e];rfl)⟩;have a3:(aA s).length=x.length:=by rw[←G,UF A]
  refine yU 8 ?_;refine aS 14 (str (aA s)) rfl (by rw[←G,UF A]) ?_;refine yU 1 ?_;refine aT (LJ rfl rfl rfl) ?_;refine aS 16 (i64 ((min (aA s).length 99:Nat):Int)) rfl (zC i64 (by split<;>omega)) ?_;refine yU 6 ?_;refine aT (a5i rfl rfl rfl dE (IJ (by show _≤((min (aA s).length 99 / 10:Nat):Int)∧((min (aA s).length 99 / 10:Nat):Int)≤_;omega))) ?_;refine aS 18 (i64 ((min (aA s).length 99 / 10:Nat):Int)) rfl rfl ?_;refine yU 1 ?_;refine aS 19 (i64 ((48+min (aA s).length 99 / 10:Nat):Int)) rfl (zC i64 oM) ?_;refine yU 1 ?_;refine aS 20 (u8 (aF (48+min (aA s).length 99 / 10))) rfl (zC (bK .u8) (a2l oM)) ?_;refine yU 2 ?_;refine aS 22 (i64 ((min (aA s).length 99 % 10:Nat):Int)) rfl rfl ?_;refine yU 1 ?_;refine aS 23 (i64 ((48+min (aA s).length 99 % 10:Nat):Int)) rfl (zC i64 oM) ?_;refine yU 1 ?_;refine aS 24 (u8 (aF (48+min (aA s).length 99 % 10))) rfl (zC (bK .u8) (a2l oM)) ?_;refine yU 1 ?_;intro _ _;refine aT (OE [aF (48+min (aA s).length 99 / 10),aF (48+min (aA s).length 99 % 10)] rfl rfl rfl KE AV tU5 (yX.at 0 rfl) rfl) ?_;refine yU 1 ?_;refine aS 27 (str (aA s)) rfl (by rw[←G,UF A]) ?_;refine aT (BQ rfl rfl rfl (by first|omega|(simp only[wV];omega)|(simp;omega))) ?_;refine zV ?_;exact rT
 have A:x.length≤1∨∃c r,x=c::r∧c≠48:= .inl (by have h:=DN N;omega);have a3:(aA s).length=x.length:=by rw[←G,UF A]
 refine yU 15 ?_;refine aS 14 (str (aA s)) rfl (by rw[←G,UF A]) ?_;refine yU 1 ?_;refine aT (LJ rfl rfl rfl) ?_;refine aS 16 (i64 ((min (aA s).length 99:Nat):Int)) rfl (zC i64 (by split<;>omega)) ?_;refine yU 6 ?_;refine aT (a5i rfl rfl rfl dE (IJ (by show _≤((min (aA s).length 99 / 10:Nat):Int)∧((min (aA s).length 99 / 10:Nat):Int)≤_;omega))) ?_;refine aS 18 (i64 ((min (aA s).length 99 / 10:Nat):Int)) rfl rfl ?_;refine yU 1 ?_;refine aS 19 (i64 ((48+min (aA s).length 99 / 10:Nat):Int)) rfl (zC i64 oM) ?_;refine yU 1 ?_;refine aS 20 (u8 (aF (48+min (aA s).length 99 / 10))) rfl (zC (bK .u8) (a2l oM)) ?_;refine yU 2 ?_;refine aS 22 (i64 ((min (aA s).length 99 % 10:Nat):Int)) rfl rfl ?_;refine yU 1 ?_;refine aS 23 (i64 ((48+min (aA s).length 99 % 10:Nat):Int)) rfl (zC i64 oM) ?_;refine yU 1 ?_;refine aS 24 (u8 (aF (48+min (aA s).length 99 % 10))) rfl (zC (bK .u8) (a2l oM)) ?_;refine yU 1 ?_;intro _ _;refine aT (OE [aF (48+min (aA s).length 99 / 10),aF (48+min (aA s).length 99 % 10)] rfl rfl rfl KE AV tU5 (yX.at 0 rfl) rfl) ?_;refine yU 1 ?_;refine aS 27 (str (aA s)) rfl (by rw[←G,UF A]) ?_;refine aT (BQ rfl rfl rfl (by first|omega|(simp only[wV];omega)|(simp;omega))) ?_;refine zV ?_;exact rT
end Go.Proofs.YtalapkjmkjmpjaaGreatDoor
end
namespace Ke
open Go.Lib (decodeL decodeN)
def opens (t:Bs):Prop:=t=[]∨∃b r,t=b::r∧b.toNat / 64≠2
theorem XG{b r}(h:b.toNat / 64≠2):opens (b::r):= .inr ⟨b,r,rfl,h⟩
theorem b1Q:opens []:= .inl rfl
theorem b1A{s t}(h:opens s)(A:s≠[]):opens (s++t):=by
 rcases h with h|⟨b,r,rfl,h⟩
 ·exact absurd h A
 exact .inr ⟨b,r++t,rfl,h⟩
theorem b9G{s t}(h:opens s)(A:opens t):opens (s++t):=by
 cases s with
 |nil=>exact A
 |cons a r=>exact b1A h sI
theorem a6T l t (G:l≠[])(M:opens t):decodeL (l++t)=decodeL l:=by
 rw[Go.Lib.decodeL_N,Go.Lib.decodeL_N];rcases M with rfl|⟨b,r,rfl,A⟩
 ·rw[yD]
 rcases l with _|⟨N,_|⟨O,_|⟨Q,_|⟨Z,l⟩⟩⟩⟩
 ·exact absurd rfl G
 all_goals
  simp only[yC,vM,wU,wL,wV,aP,aQ,bC];unfold decodeN
  first
   | (have e1:(0+1<0+1)=False:=sI
      simp[A,bY])
   |(simp[A,bY];done)
   |skip
theorem a6N:∀(n:Nat) (s t:Bs),s.length≤n→opens t→runes (s++t)=runes s++runes t
 |_,[],t,_,_=>by simp[c3s]
 |0,a::r,t,h,_=>by simp at h
 |n+1,a::r,t,h,ht=>by
  have A:a::r≠[]:=sI;have M:=Go.Lib.decodeL_width (a::r);have G:=Go.Lib.decodeL_le (a::r) A;rw[XU (s:=(a::r)++t) sI,XU A,a6T _ _ A ht,List.drop_append_of_le_length G,a6N n _ t (by simp only[wS];simp only[wU]at h;simp only[wU];omega) ht];rfl
theorem b1S s t (h:opens t):runes (s++t)=runes s++runes t:=a6N _ s t (tH _) h
theorem b6j{c} r (h:c.toNat<128):runes (c::r)=c.toNat::runes r:=by
 rw[XU sI,Go.Lib.decodeL_ascii c r h];rfl
theorem toByte{n}(h:n<256):(aF n).toNat=n:=by simp;omega
theorem enc1{c}(h:c<128):enc c=[aF c]:=by
 unfold enc;rw[zF h]
theorem enc2{c}(h1:128≤c)(h:c<2048):enc c=[aF (192+c / 64),aF (128+c % 64)]:=by
 unfold enc;rw[zD oM,zF h]
theorem enc3{c}(h1:2048≤c)(h:okc c):enc c=[aF (224+c / 4096),aF (128+c / 64 % 64),aF (128+c % 64)]:=by
 unfold okc at h;unfold enc;rw[zD oM,zD oM,zF oM]
theorem a2o{c}(h:okc c):opens (enc c)∧enc c≠[]:=by
 by_cases h1:c<128
 ·rw[enc1 h1];exact⟨XG (by rw[toByte oM];omega),sI⟩
 by_cases h2:c<2048
 ·rw[enc2 oM h2];exact⟨XG (by rw[toByte oM];omega),sI⟩
 rw[enc3 oM h];unfold okc at h;exact⟨XG (by rw[toByte oM];omega),sI⟩
theorem a7j{c}(h:okc c):decodeL (enc c)=(c,(enc c).length):=by
 rw[Go.Lib.decodeL_N]
 by_cases h1:c<128
 ·rw[enc1 h1];simp only[wU,wL,aP,aQ,bC];rw[toByte oM];unfold decodeN;rw[zF h1]
 by_cases h2:c<2048
 ·rw[enc2 oM h2];simp only[wU,wL,aP,aQ,bC];rw[toByte oM,toByte oM];unfold decodeN;rw[zD oM,zF ⟨oM,oM,oM⟩,zF oM];refine Prod.ext ?_ rfl;show _=c;simp only;omega
 rw[enc3 oM h];unfold okc at h;simp only[wU,wL,aP,aQ,bC];rw[toByte oM,toByte oM,toByte oM];unfold decodeN;rw[zD oM,zD oM,zF ⟨oM,⟨oM,oM⟩,oM,oM⟩,zF ⟨oM,oM⟩];refine Prod.ext ?_ rfl;show _=c;simp only;omega
theorem b2g{c}(h:okc c):runes (enc c)=[c]:=by
 rw[XU (a2o h).2,a7j h,xX (tH _)];rfl
def encs (l:List Nat):Bs:=l.flatMap enc
theorem a8J:∀(l:List Nat),(∀c∈l,okc c)→opens (encs l)
 |[],_=>b1Q
 |c::_r,h=>b1A (a2o (h c (.head _))).1 (a2o (h c (.head _))).2
theorem a8q:∀(l:List Nat),(∀c∈l,okc c)→runes (encs l)=l
 |[],_=>rfl
 |c::r,h=>by
  show runes (enc c++encs r)=_;rw[b1S _ _ (a8J r fun d A=>h d (.tail _ A)),b2g (h c (.head _)),a8q r fun d A=>h d (.tail _ A)];rfl
end Ke
namespace Ke
end Ke
section
namespace Go.Proofs.YtalapkjmkjmpjaaGreatDoor
open _root_.Go.Proofs.Tryz
open Go Go.Sx
theorem mod_eq(n:Int){m:Int}(A:0<m):(n.tmod m+m).tmod m=n % m:=by
 have h1:=Int.tmod_lt_of_pos n A;have h2: -m<n.tmod m:=by
  have:=Int.lt_tmod_of_pos n A;omega
 rw[Int.tmod_eq_emod_of_nonneg oM,Int.add_emod_right,Int.tmod_def,Int.sub_mul_emod_self_left]
def a4d (p:List UInt8×List UInt8):List Value:=[str p.1,str p.2]
theorem d0x{k a b}(h:aN[k]?=some (a,b)):(aN.flatMap a4d)[k*2]?=some (str a)∧(aN.flatMap a4d)[k*2+1]?=some (str b):=by
 have h0:=BO (f:=a4d) (n:=2) (cs:=aN.flatMap a4d) (sp:=[]) (o:=0) (fun _=>rfl) sI h 0 dE;have h1:=BO (f:=a4d) (n:=2) (cs:=aN.flatMap a4d) (sp:=[]) (o:=0) (fun _=>rfl) sI h 1 dE;rw[sS]at h0 h1;exact⟨h0,h1⟩
theorem b4m:∀{l:List (Nat×List UInt8)} {c:Nat} {a:List UInt8},(l.map (·.1)).Nodup→(c,a)∈l→l.lookup c=some a
 |(d,b)::r,c,a,hn,h=>by
  simp only[wF,vJ]at hn;rw[List.lookup_cons];rcases vX.1 h with h|h
  ·cases h;simp
  have:c≠d:=fun e=>hn.1 (e▸vU.2 ⟨_,h,rfl⟩);rw[show(c == d)=false from by simpa using this];exact b4m hn.2 h
theorem a9c{c}:∀{l:List (List UInt8×List UInt8)} {k:Nat} {a b:List UInt8},l[k]?=some (a,b)→c∈aB b→(c,a)∈aZ l
 |[],_,_,_,h,_=>by simp at h
 |(x,y)::r,0,a,b,h,hc=>by
  simp at h;obtain⟨rfl,rfl⟩:=h;exact vZ _ (vU.2 ⟨c,hc,rfl⟩)
 |(x,y)::r,k+1,a,b,h,hc=>vY _ (a9c (l:=r) (by simpa using h) hc)
theorem b8R{k j c:Nat}{a b}(h:aN[k]?=some (a,b))(A:(aB b)[j]?=some c):bQ.lookup c=some a:=by
 refine b4m Ke.b1y ?_;rw[←Ke.a9r];exact a9c h (CJ A)
theorem c3Y{k c a b}(h:aN[k]?=some (a,b))(h1:c ∉ (aZ (aN.take k)).map (·.1))(h2:c ∉ aB b):c ∉ (aZ (aN.take (k+1))).map (·.1):=by
 rw[Ke.a7f h,wG,wB,wE];rintro(g|g)
 ·exact h1 g
 obtain⟨x,A,rfl⟩:=vU.1 g;exact h2 A
theorem c1R{c k}(A:¬k<31)(h:c ∉ (aZ (aN.take k)).map (·.1)):bQ.lookup c=none:=by
 rw[tX (show aN.length≤k by show 31≤k;omega),Ke.a9r]at h;exact Ke.a2z h
theorem c2H{l:List Nat}{k c d}(h:c ∉ l.take k)(A:l[k]?=some d)(M:d≠c):c ∉ l.take (k+1):=by
 obtain⟨G,A⟩:=xC.1 A;rw[tN G,A,wB,vN];rintro(e|e)
 ·exact h e
 exact M e.symm
theorem a7e:∀(f:Nat) (s:List UInt8) (i:Nat) (A:Array Value),s.length-i≤f→aX ⟨s.toArray⟩ f i A=A++(rcs (aB (s.drop i))).toArray
 |0,s,i,A,h=>by
  rw[Ke.a0f oM];simp[aX,rcs]
 |f+1,s,i,A,h=>by
  unfold aX
  by_cases hi:i<s.length
  ·rw[zF (by rw[size_mk];exact hi)];have G:=Ke.OZ s hi;rw[Ke.a1s hi];dsimp only;rw[a7e f s _ _ oM];simp[rcs]
  rw[zD (by rw[size_mk];exact hi),Ke.a0f oM];simp[rcs]
theorem runes_all s:aX ⟨s.toArray⟩ s.length 0 #[]=(rcs (aB s)).toArray:=by
 rw[a7e _ _ _ _ oM,xU];simp
theorem a9h s:(aB s).length≤s.length:=Ke.a0t _ _
theorem c6H I:yY aU 349 [] I [] (fun e G H'=>∃b,e= .returned (.slice (some ⟨b,0,none⟩) 31 31)∧H'=[(b,yV 401 (aN.flatMap a4d))]):=by
 refine zN func349 fun w0 _=>?_;refine yU 39 ?_;intro A _;refine zM ?_;exact⟨A,rfl,rfl⟩
theorem c1T(c:Nat) I:Pure aU 301 [.int .i32 (c:Int)] I (str ((bQ.lookup c).getD [])):=by
 refine yY.toPure ?_;refine zN func301 fun w0 _=>?_;refine NG (c6H _) ?_;intro _ _ _ _ a4 a5;obtain⟨tb,h,rfl⟩:=a5;cases h;refine J.persist (a4 _ (.head _)) (fun _ _ Z=>?_);refine yU 10 ?_;refine aW (ι:=Nat) (fun k=>k≤31∧c ∉ (aZ (aN.take k)).map (·.1)) (fun k=>31-k) (fun k=>[(0,.int .i32 (c:Int)),(3,.slice (some ⟨tb,0,none⟩) 31 31),(4,i64 (k:Int))]) (fun k=>_) (fun k=>[]) 0 ⟨sQ _,by simp[aZ]⟩ rT rfl rfl ?_;rintro k ⟨_,a0⟩;refine yZ ?_ ?_<;>intro a6 a1
 ·refine yU 5 ?_;have a7:k<31:=oM;obtain⟨⟨a,b⟩,A⟩:∃p,aN[k]?=some p:=⟨_,AA (show k<aN.length from a7)⟩;obtain⟨-,-,a8⟩:=Ke.b1e _ (CJ A);dsimp only at a8;have ad:=a9h b;refine zW (k*2) ?_;refine aT (JO (off':=k*2+1) rfl rfl rfl underlying401 BD dE dE sI) ?_;refine aT (DI DU (bU Z) (d0x A).2) ?_;refine J.op rfl (a9y (runes_all b) rfl rfl rfl rfl AV underlying315 b9x ?_);intro b8 c9 a2 _;refine yU 9 ?_;refine aW (ι:=Nat) (fun j=>j≤(aB b).length∧c ∉ (aB b).take j) (fun j=>(aB b).length-j) (fun j=>[(0,.int .i32 (c:Int)),(3,.slice (some ⟨tb,0,none⟩) 31 31),(4,i64 (k:Int)),(5,.slice (some ⟨b8,0,none⟩) (aB b).length c9),(6,i64 (j:Int))]) (fun j=>_) (fun j=>[(b8,yV 21 (rcs (aB b)++a2))]) 0 ⟨sQ _,sI⟩ rT rfl rfl ?_;rintro j ⟨_,M⟩;refine yZ ?_ ?_<;>intro a3 O
  ·refine yU 5 ?_;have a9:j<(aB b).length:=oM;obtain⟨d,N⟩:∃d,(aB b)[j]?=some d:=⟨_,AA a9⟩;refine zW j ?_;refine aT (DI isAgg21 (yX.at 0 rfl) (b7M N)) ?_;refine yZ ?_ ?_<;>intro G Q
   ·have aa:d=c:=by have h:=BP G;omega
    subst aa;refine zW (k*2) ?_;refine aT (JO (off':=k*2) rfl rfl rfl underlying401 BD dE dE sI) ?_;refine aT (DI DU (bU Z) (d0x A).1) ?_;refine zV ?_;rw[b8R A N];exact rT
   have ab:d≠c:=fun e=>CB G (by rw[e]);refine yU 8 ?_;refine aO (j+1) ⟨oM,c2H M N ab⟩ oM rT rfl rfl
  have ac:c ∉ aB b:=by rw[tX oM]at M;exact M
  refine yU 11 ?_;refine bV (bM Keeps.n) ?_;refine aO (k+1) ⟨oM,c3Y A a0 ac⟩ oM rT rfl rfl
 refine zM ?_;rw[c1R oM a0];exact rT
theorem d0K{c x}(h:bQ.lookup c=some x):x≠[]:=by
 have h1:bQ.all (fun p=>decide (p.2≠[]))=true:=by decide +kernel
 obtain⟨p,A,rfl⟩:=Ke.a3p h;simpa using yG.1 h1 p A
theorem c5G(c:Nat)(hc:c≤1114111)(I:Heap):Pure Tryz.prog 224 [.int .i32 (c:Int)] I (str (Ke.char c)):=by
 refine zN func224 fun w0 hw0=>?_;refine yU 5 ?_;refine Cj.join (ι:=Unit) (fun _u=>¬((97≤c∧c≤122)∨(48≤c∧c≤57))) (fun _u=>[(0,.int .i32 (c:Int))]) (fun _u=>I) (fun _u=>[]) ?_ (fun hcut=>?_)
 ·intro _ a0;refine Cj.join (ι:=Unit) (fun _u=>¬((97≤c∧c≤122)∨(48≤c∧c≤57))∧¬(65≤c∧c≤90)) (fun _u=>[(0,.int .i32 (c:Int))]) (fun _u=>I) (fun _u=>[]) ?_ (fun hcut=>?_)
  ·rintro-⟨a0,a1⟩;refine Cj.join (ι:=Unit) (fun _u=>¬((97≤c∧c≤122)∨(48≤c∧c≤57))∧¬(65≤c∧c≤90)∧128≤c) (fun _u=>[(0,.int .i32 (c:Int))]) (fun _u=>I) (fun _u=>[]) ?_ (fun hcut=>?_)
   ·rintro-⟨a0,a1,a2⟩;refine Cj.join (ι:=Unit) (fun _u=>¬((97≤c∧c≤122)∨(48≤c∧c≤57))∧¬(65≤c∧c≤90)∧128≤c∧¬((768≤c∧c≤879)∨(65056≤c∧c≤65071))) (fun _u=>[(0,.int .i32 (c:Int))]) (fun _u=>I) (fun _u=>[]) ?_ (fun hcut=>?_)
    ·rintro-⟨a0,a1,a2,a3⟩;refine zO (c1T c _) ?_;refine yU 3 ?_;refine Cj.join (ι:=Unit) (fun _u=>¬((97≤c∧c≤122)∨(48≤c∧c≤57))∧¬(65≤c∧c≤90)∧128≤c∧¬((768≤c∧c≤879)∨(65056≤c∧c≤65071))∧Ke.tab.lookup c=none∧c≠962∧¬((945≤c∧c≤969)∨(1072≤c∧c≤1103))∧¬(((913≤c∧c≤937)∧c≠930)∨(1040≤c∧c≤1071))) (fun _u=>[(0,.int .i32 (c:Int))]) (fun _u=>I) (fun _u=>[]) ?_ (fun hcut=>?_)
     ·rintro-⟨a0,a1,a2,a3,a4,a5,a6,a7⟩;refine zM ?_;refine⟨?_,rfl,rfl⟩;refine zC (fun l=>Ending.returned (str l)) ?_;unfold Ke.char;rw[zD (by omega),zD (by omega),zD (by omega),zD (by omega),a4];simp only;rw[zD a5,zD a6,zD a7]
     refine yZ (fun hc1 hc1p=>?_) (fun hc1 hc1p=>?_)
     ·obtain⟨x,hx⟩:∃x,Ke.tab.lookup c=some x:=by
        have h:=bne_iff_ne.1 hc1;cases hl:Ke.tab.lookup c with
        |none=>rw[hl]at h;exact absurd rfl h
        |some x=>exact⟨x,rfl⟩
      refine Cj.ez 3 (str x) rfl (by rw[hx];rfl) ?_;refine zM ?_;refine⟨?_,rfl,rfl⟩;refine zC (fun l=>Ending.returned (str l)) ?_;unfold Ke.char;rw[zD (by omega),zD (by omega),zD (by omega),zD (by omega),hx]
     have hx:Ke.tab.lookup c=none:=by
       have h:=EC hc1;cases hl:Ke.tab.lookup c with
       |none=>rfl
       |some x=>rw[hl]at h;exact absurd h (d0K hl)
     refine yZ (fun hc2 hc2p=>?_) (fun hc2 hc2p=>?_)
     ·refine yU 3 ?_;intro b3 hb3;refine zV ?_;refine⟨?_,rfl,rfl⟩;refine zC (fun l=>Ending.returned (str l)) ?_;unfold Ke.char;rw[zD (by omega),zD (by omega),zD (by omega),zD (by omega),hx];simp only;rw[zF (by omega)];rfl
     refine Cj.join (ι:=Bool) (fun y=>(y=true→((945≤c∧c≤969)∨(1072≤c∧c≤1103)))∧(y=false→¬((945≤c∧c≤969)∨(1072≤c∧c≤1103)))) (fun y=>[(0,.int .i32 (c:Int)),(58,.bool y)]) (fun y=>I) (fun y=>[]) ?_ (fun hcut=>?_)
     ·rintro y ⟨hy1,hy2⟩;refine DF (fun hc4=>?_) (fun hc4=>?_)
      ·have hcc:=hy1 hc4;refine yU 4 ?_;intro b5 hb5;refine zV ?_;refine⟨?_,rfl,rfl⟩;refine zC (fun l=>Ending.returned (str l)) ?_;unfold Ke.char;rw[zD (by omega),zD (by omega),zD (by omega),zD (by omega),hx];simp only;rw[zD (by omega),zF (by omega)];exact Ke.a8j (by unfold Ke.okc;omega)
      have hcc:=hy2 hc4;refine Cj.join (ι:=Bool) (fun y=>(y=true→(((913≤c∧c≤937)∧c≠930)∨(1040≤c∧c≤1071)))∧(y=false→¬(((913≤c∧c≤937)∧c≠930)∨(1040≤c∧c≤1071)))) (fun y=>[(0,.int .i32 (c:Int)),(76,.bool y)]) (fun y=>I) (fun y=>[]) ?_ (fun hcut=>?_)
      ·rintro y ⟨hy1,hy2⟩;refine DF (fun hc6=>?_) (fun hc6=>?_)
       ·have hcc:=hy1 hc6;refine yU 5 ?_;intro b7 hb7;refine zV ?_;refine⟨?_,rfl,rfl⟩;refine zC (fun l=>Ending.returned (str l)) ?_;unfold Ke.char;rw[zD (by omega),zD (by omega),zD (by omega),zD (by omega),hx];simp only;rw[zD (by omega),zD (by omega),zF (by omega)];exact(zC (fun n:Int=>(Utf8.encode n).data.toList) (by omega)).trans (Ke.a8j (c:=c+32) (by unfold Ke.okc;omega))
       have hcc:=hy2 hc6;refine yU 2 ?_;exact hcut () _ _ _ ⟨by omega,by omega,by omega,by omega,hx,by omega,by omega,by omega⟩ ⟨rfl,trivial⟩ rfl rfl
      refine DZ (fun hg8 hg8p=>?_) (fun hg8 hg8p=>?_)
      ·refine DZ (fun hg9 hg9p=>?_) (fun hg9 hg9p=>?_)
       ·refine DZ (fun hg10 hg10p=>?_) (fun hg10 hg10p=>?_)
        ·refine yU 9 ?_;exact hcut _ _ _ _ ⟨fun h=>by first|omega|(simp at h;omega)|(cases h;done),fun h=>by first|omega|(simp at h;omega)|(cases h;done)⟩ ⟨rfl,rfl,trivial⟩ rfl rfl
        refine DZ (fun hg11 hg11p=>?_) (fun hg11 hg11p=>?_)
        ·refine yU 6 ?_;exact hcut _ _ _ _ ⟨fun h=>by first|omega|(simp at h;omega)|(cases h;done),fun h=>by first|omega|(simp at h;omega)|(cases h;done)⟩ ⟨rfl,rfl,trivial⟩ rfl rfl
        refine yU 6 ?_;exact hcut _ _ _ _ ⟨fun h=>by first|omega|(simp at h;omega)|(cases h;done),fun h=>by first|omega|(simp at h;omega)|(cases h;done)⟩ ⟨rfl,rfl,trivial⟩ rfl rfl
       refine DZ (fun hg12 hg12p=>?_) (fun hg12 hg12p=>?_)
       ·refine yU 6 ?_;exact hcut _ _ _ _ ⟨fun h=>by first|omega|(simp at h;omega)|(cases h;done),fun h=>by first|omega|(simp at h;omega)|(cases h;done)⟩ ⟨rfl,rfl,trivial⟩ rfl rfl
       refine yU 6 ?_;exact hcut _ _ _ _ ⟨fun h=>by first|omega|(simp at h;omega)|(cases h;done),fun h=>by first|omega|(simp at h;omega)|(cases h;done)⟩ ⟨rfl,rfl,trivial⟩ rfl rfl
      refine DZ (fun hg13 hg13p=>?_) (fun hg13 hg13p=>?_)
      ·refine yU 6 ?_;exact hcut _ _ _ _ ⟨fun h=>by first|omega|(simp at h;omega)|(cases h;done),fun h=>by first|omega|(simp at h;omega)|(cases h;done)⟩ ⟨rfl,rfl,trivial⟩ rfl rfl
      refine yU 6 ?_;exact hcut _ _ _ _ ⟨fun h=>by first|omega|(simp at h;omega)|(cases h;done),fun h=>by first|omega|(simp at h;omega)|(cases h;done)⟩ ⟨rfl,rfl,trivial⟩ rfl rfl
     refine DZ (fun hg14 hg14p=>?_) (fun hg14 hg14p=>?_)
     ·refine DZ (fun hg15 hg15p=>?_) (fun hg15 hg15p=>?_)
      ·refine yU 9 ?_;exact hcut _ _ _ _ ⟨fun h=>by first|omega|(simp at h;omega)|(cases h;done),fun h=>by first|omega|(simp at h;omega)|(cases h;done)⟩ ⟨rfl,rfl,trivial⟩ rfl rfl
      refine DZ (fun hg16 hg16p=>?_) (fun hg16 hg16p=>?_)
      ·refine yU 6 ?_;exact hcut _ _ _ _ ⟨fun h=>by first|omega|(simp at h;omega)|(cases h;done),fun h=>by first|omega|(simp at h;omega)|(cases h;done)⟩ ⟨rfl,rfl,trivial⟩ rfl rfl
      refine yU 6 ?_;exact hcut _ _ _ _ ⟨fun h=>by first|omega|(simp at h;omega)|(cases h;done),fun h=>by first|omega|(simp at h;omega)|(cases h;done)⟩ ⟨rfl,rfl,trivial⟩ rfl rfl
     refine DZ (fun hg17 hg17p=>?_) (fun hg17 hg17p=>?_)
     ·refine yU 6 ?_;exact hcut _ _ _ _ ⟨fun h=>by first|omega|(simp at h;omega)|(cases h;done),fun h=>by first|omega|(simp at h;omega)|(cases h;done)⟩ ⟨rfl,rfl,trivial⟩ rfl rfl
     refine yU 6 ?_;exact hcut _ _ _ _ ⟨fun h=>by first|omega|(simp at h;omega)|(cases h;done),fun h=>by first|omega|(simp at h;omega)|(cases h;done)⟩ ⟨rfl,rfl,trivial⟩ rfl rfl
    refine Cj.join (ι:=Bool) (fun y=>(y=true→((768≤c∧c≤879)∨(65056≤c∧c≤65071)))∧(y=false→¬((768≤c∧c≤879)∨(65056≤c∧c≤65071)))) (fun y=>[(0,.int .i32 (c:Int)),(46,.bool y)]) (fun y=>I) (fun y=>[]) ?_ (fun hcut=>?_)
    ·rintro y ⟨hy1,hy2⟩;refine DF (fun hc18=>?_) (fun hc18=>?_)
     ·have hcc:=hy1 hc18;refine zM ?_;refine⟨?_,rfl,rfl⟩;refine zC (fun l=>Ending.returned (str l)) ?_;unfold Ke.char;rw[zD (by omega),zD (by omega),zD (by omega),zF (by omega)]
     have hcc:=hy2 hc18;refine yU 1 ?_;exact hcut () _ _ _ ⟨by omega,by omega,by omega,by omega⟩ ⟨rfl,trivial⟩ rfl rfl
    refine DZ (fun hg19 hg19p=>?_) (fun hg19 hg19p=>?_)
    ·refine DZ (fun hg20 hg20p=>?_) (fun hg20 hg20p=>?_)
     ·refine yU 8 ?_;exact hcut _ _ _ _ ⟨fun h=>by first|omega|(simp at h;omega)|(cases h;done),fun h=>by first|omega|(simp at h;omega)|(cases h;done)⟩ ⟨rfl,rfl,trivial⟩ rfl rfl
     refine DZ (fun hg21 hg21p=>?_) (fun hg21 hg21p=>?_)
     ·refine yU 5 ?_;exact hcut _ _ _ _ ⟨fun h=>by first|omega|(simp at h;omega)|(cases h;done),fun h=>by first|omega|(simp at h;omega)|(cases h;done)⟩ ⟨rfl,rfl,trivial⟩ rfl rfl
     refine yU 5 ?_;exact hcut _ _ _ _ ⟨fun h=>by first|omega|(simp at h;omega)|(cases h;done),fun h=>by first|omega|(simp at h;omega)|(cases h;done)⟩ ⟨rfl,rfl,trivial⟩ rfl rfl
    refine DZ (fun hg22 hg22p=>?_) (fun hg22 hg22p=>?_)
    ·refine yU 5 ?_;exact hcut _ _ _ _ ⟨fun h=>by first|omega|(simp at h;omega)|(cases h;done),fun h=>by first|omega|(simp at h;omega)|(cases h;done)⟩ ⟨rfl,rfl,trivial⟩ rfl rfl
    refine yU 5 ?_;exact hcut _ _ _ _ ⟨fun h=>by first|omega|(simp at h;omega)|(cases h;done),fun h=>by first|omega|(simp at h;omega)|(cases h;done)⟩ ⟨rfl,rfl,trivial⟩ rfl rfl
   refine yZ (fun hc23 hc23p=>?_) (fun hc23 hc23p=>?_)
   ·refine zM ?_;refine⟨?_,rfl,rfl⟩;refine zC (fun l=>Ending.returned (str l)) ?_;unfold Ke.char;rw[zD (by omega),zD (by omega),zF (by omega)]
   refine yU 1 ?_;exact hcut () _ _ _ ⟨by omega,by omega,by omega⟩ ⟨rfl,trivial⟩ rfl rfl
  refine DZ (fun hg24 hg24p=>?_) (fun hg24 hg24p=>?_)
  ·refine yZ (fun hc25 hc25p=>?_) (fun hc25 hc25p=>?_)
   ·refine yU 5 ?_;intro b26 hb26;refine zV ?_;refine⟨?_,rfl,rfl⟩;refine zC (fun l=>Ending.returned (str l)) ?_;unfold Ke.char;rw[zD (by omega),zF (by omega)];exact(zC (fun n:Int=>(Utf8.encode n).data.toList) (by omega)).trans (Ke.a8j (c:=c+32) (by unfold Ke.okc;omega))
   refine yU 1 ?_;exact hcut () _ _ _ ⟨by omega,by omega⟩ ⟨rfl,trivial⟩ rfl rfl
  refine yU 7 ?_;exact hcut () _ _ _ ⟨by omega,by omega⟩ ⟨rfl,trivial⟩ rfl rfl
 refine Cj.join (ι:=Bool) (fun y=>(y=true→((97≤c∧c≤122)∨(48≤c∧c≤57)))∧(y=false→¬((97≤c∧c≤122)∨(48≤c∧c≤57)))) (fun y=>[(0,.int .i32 (c:Int)),(17,.bool y)]) (fun y=>I) (fun y=>[]) ?_ (fun hcut=>?_)
 ·rintro y ⟨hy1,hy2⟩;refine DF (fun hc28=>?_) (fun hc28=>?_)
  ·have hcc:=hy1 hc28;refine yU 4 ?_;intro b29 hb29;refine zV ?_;refine⟨?_,rfl,rfl⟩;refine zC (fun l=>Ending.returned (str l)) ?_;unfold Ke.char;rw[zF (by omega)];exact Ke.a8j (by unfold Ke.okc;omega)
  have hcc:=hy2 hc28;refine yU 1 ?_;exact hcut () _ _ _ (by omega) ⟨rfl,trivial⟩ rfl rfl
 refine DZ (fun hg30 hg30p=>?_) (fun hg30 hg30p=>?_)
 ·refine DZ (fun hg31 hg31p=>?_) (fun hg31 hg31p=>?_)
  ·refine yU 8 ?_;exact hcut _ _ _ _ ⟨fun h=>by first|omega|(simp at h;omega)|(cases h;done),fun h=>by first|omega|(simp at h;omega)|(cases h;done)⟩ ⟨rfl,rfl,trivial⟩ rfl rfl
  refine DZ (fun hg32 hg32p=>?_) (fun hg32 hg32p=>?_)
  ·refine yU 5 ?_;exact hcut _ _ _ _ ⟨fun h=>by first|omega|(simp at h;omega)|(cases h;done),fun h=>by first|omega|(simp at h;omega)|(cases h;done)⟩ ⟨rfl,rfl,trivial⟩ rfl rfl
  refine yU 5 ?_;exact hcut _ _ _ _ ⟨fun h=>by first|omega|(simp at h;omega)|(cases h;done),fun h=>by first|omega|(simp at h;omega)|(cases h;done)⟩ ⟨rfl,rfl,trivial⟩ rfl rfl
 refine DZ (fun hg33 hg33p=>?_) (fun hg33 hg33p=>?_)
 ·refine yU 5 ?_;exact hcut _ _ _ _ ⟨fun h=>by first|omega|(simp at h;omega)|(cases h;done),fun h=>by first|omega|(simp at h;omega)|(cases h;done)⟩ ⟨rfl,rfl,trivial⟩ rfl rfl
 refine yU 5 ?_;exact hcut _ _ _ _ ⟨fun h=>by first|omega|(simp at h;omega)|(cases h;done),fun h=>by first|omega|(simp at h;omega)|(cases h;done)⟩ ⟨rfl,rfl,trivial⟩ rfl rfl
theorem TY s (hs:s.length≤1000000000) I:yY aU 147 [str s] I [] (fun e I' H'=>∃g,AL 0 1 (aC s).length ((aC s).map str) g∧e= .returned (gV (aC s).length g)∧H'=gH 9 ((aC s).map str) g):=by
 have ai:=a9h s;refine zN func147 fun w0 _=>?_;refine yU 18 ?_;refine J.op rfl (a9y (runes_all s) rfl rfl rfl rfl AV underlying315 b9x ?_);intro b1 c2 a9 _;refine yU 10 ?_;refine aW (ι:=Nat×List UInt8×List (List UInt8)×Gs) (fun x=>x.1≤(aB s).length∧aC s=x.2.2.1++Ke.wf x.2.1 ((aB s).drop x.1)∧x.2.1.length≤4*x.1∧x.2.2.1.length≤x.1∧AL 0 1 x.2.2.1.length (x.2.2.1.map str) x.2.2.2) (fun x=>(aB s).length-x.1) (fun x=>[(3,gV x.2.2.1.length x.2.2.2),(4,str x.2.1),(5,.slice (some ⟨b1,0,none⟩) (aB s).length c2),(6,i64 (x.1:Int))]) (fun x=>I) (fun x=>(b1,yV 21 (rcs (aB s)++a9))::gH 9 (x.2.2.1.map str) x.2.2.2) (0,[],[],none) ⟨sQ _,rfl,sQ _,sQ _,rfl,rfl⟩ rT rfl rfl ?_;rintro⟨k,w,G,g⟩ ⟨hk,A,aa,ab,Z⟩;dsimp only at hk A aa ab Z ⊢;refine yZ ?_ ?_<;>intro ac a4
 ·refine yU 5 ?_;have ad:k<(aB s).length:=oM;obtain⟨c,M⟩:∃c,(aB s)[k]?=some c:=⟨_,AA ad⟩;have a0:=drop_cons M;have aj:=Ke.a3W c;have ae:c≤1114111:=Ke.b4O _ _ c (CJ M);refine zW k ?_;refine aT (DI isAgg21 (yX.at 0 rfl) (b7M M)) ?_;refine zO (c5G c ae _) ?_;refine yZ ?_ ?_<;>intro a1 a5
  ·have af:Ke.char c≠[32]:=bne_iff_ne.1 a1;refine yU 4 ?_;refine aT (BQ rfl rfl rfl oM) ?_;refine yU 12 ?_;refine aO (k+1,w++Ke.char c,G,g) ⟨dO,by dsimp only;rw[A,a0,Ke.c7t af],by dsimp only;rw[wV];omega,dO,Z⟩ dO rT rfl rfl
  have he:Ke.char c=[32]:=EC a1;refine yZ ?_ ?_<;>intro a2 a6
  ·have N:w≠[]:=bne_iff_ne.1 a2;refine yU 4 ?_;intro _ _;refine J.op rfl (GX 0 (sQ _) (by':=15) [_,_] rfl rfl rfl rfl rfl ED (.inr ⟨_,ED⟩) kR BD tZ9 rfl Z rfl (Src.slice (yX.at 0 rfl) rfl rfl rfl) oM ?_);intro g8 ag;refine yU 13 ?_;refine bV (bM (Keeps.k bZ)) ?_;refine aO (k+1,[],G++[w],g8) ⟨dO,by dsimp only;rw[A,a0,Ke.c1N he N,yE];rfl,sQ _,by dsimp only;rw[wV];simp only[wU,wL];omega,by dsimp only;rw[wG,wV];exact ag⟩ dO ⟨by dsimp only;rw[wV];rfl,rfl,rfl,rfl,trivial⟩ rfl (by dsimp only;rw[wG];rfl)
  have N:w=[]:=EC a2;refine yU 12 ?_;refine aO (k+1,[],G,g) ⟨dO,by dsimp only;rw[A,a0,N,Ke.b8n he],sQ _,dO,Z⟩ dO rT rfl rfl
 have Q:(aB s).drop k=[]:=xX oM;refine yZ ?_ ?_<;>intro a3 a7
 ·have N:w≠[]:=bne_iff_ne.1 a3;have O:aC s=G++[w]:=by rw[A,Q,Ke.a8V,zD N]
  refine yU 4 ?_;intro _ _;refine J.op rfl (GX 0 (sQ _) (by':=15) [_,_] rfl rfl rfl rfl rfl ED (.inr ⟨_,ED⟩) kR BD tZ9 rfl Z rfl (Src.slice (yX.at 0 rfl) rfl rfl rfl) oM ?_);intro ah a8;refine yU 10 ?_;refine bV (bM (bM bZ)) ?_;refine zM ?_;rw[O,wG,wV];exact⟨ah,a8,rfl,rfl⟩
 have N:w=[]:=EC a3;have O:aC s=G:=by rw[A,Q,Ke.a8V,zF N,yD]
 refine yU 9 ?_;refine bV (bM bZ) ?_;refine zM ?_;rw[O];exact⟨g,Z,rfl,rfl⟩
def mix (ws:List (List UInt8)) (j:Nat):List (List UInt8):=(ws.take j).map aG++ws.drop j
theorem b0w ws j:(mix ws j).length=ws.length:=by unfold mix;simp;omega
theorem c3o{ws j x}(h:ws[j]?=some x):(mix ws j)[j]?=some x:=by
 obtain⟨_,_⟩:=xC.1 h;unfold mix;rw[xI (by simp;omega),xH,wO,wI,sW oM,Nat.sub_self,Nat.add_zero,h]
theorem b3E{ws j x}(h:ws[j]?=some x):mix ws (j+1)=(mix ws j).set j (aG x):=by
 obtain⟨A,G⟩:=xC.1 h;unfold mix;rw[tN A,G,wG,drop_cons h,uO _ _ (by simp;omega),wO,wI,sW oM,Nat.sub_self];simp
theorem c6E{ws j x}(h:ws[j]?=some x)(A:aG x=x):mix ws (j+1)=mix ws j:=by
 rw[b3E h,A]
 apply List.ext_getElem?
 intro i;rw[xA]
 by_cases hi:j=i
 ·subst hi;rw[zF rfl,c3o h,zF (by rw[b0w];exact(xC.1 h).1)]
 rw[zD hi]
theorem c7T{ws j x sp}(h:ws[j]?=some x):((mix ws j).map str++sp).set j (str (aG x))=(mix ws (j+1)).map str++sp:=by
 rw[b3E h,List.set_append_left _ _ (by rw[wO,b0w];exact(xC.1 h).1),List.map_set]
theorem c9p ws {j}(h:¬j<ws.length):mix ws j=ws.map aG:=by
 unfold mix;rw[tX oM,xX oM,yD]
theorem OC s skip (hs:s.length≤100000000) I:Pure aU 150 [str s,i64 skip] I (str (Ke.GL s skip)):=by
 refine yY.toPure ?_;have a6:(aJ s skip).length≤s.length:=by unfold aJ;simp
 have a7:=Ke.NU (aJ s skip);have a8:=Ke.a4x (aJ s skip);refine zN func150 fun w0 _=>?_;refine yU 9 ?_;refine aT (IE rfl rfl rfl) ?_;refine yU 2 ?_;refine aT (LJ rfl rfl rfl) ?_;refine aS 13 (i64 (((min (max skip 0) (s.length:Int)).toNat:Nat):Int)) rfl (zC i64 oM) ?_;refine aT (AO (p:=(min (max skip 0) (s.length:Int)).toNat) (q:=s.length) rfl rfl AV ⟨_,rfl⟩ rfl oM oM) ?_;refine aS 14 (str (aJ s skip)) rfl (by rw[tY];rfl) ?_;refine NG (TY (aJ s skip) oM _) ?_;intro _ _ _ _ Z a0;obtain⟨g,M,h,rfl⟩:=a0;cases h;replace M:=M.base Z;refine yU 10 ?_;refine aW (ι:=Nat) (fun j=>j≤(aC (aJ s skip)).length) (fun j=>(aC (aJ s skip)).length-j) (fun j=>[(5,gV (aC (aJ s skip)).length g),(6,i64 (j:Int))]) (fun j=>_) (fun j=>gH 9 ((mix (aC (aJ s skip)) j).map str) g) 0 (sQ _) rT rfl (by rw[yD,show mix (aC (aJ s skip)) 0=(aC (aJ s skip)) by simp[mix]]) ?_;intro j _;refine yU 5 ?_;refine aT (b7k M rfl rfl ED) ?_;refine yZ ?_ ?_<;>intro a1 Q
 ·refine yU 5 ?_;have a2:j<(aC (aJ s skip)).length:=oM;obtain⟨x,A⟩:∃x,(aC (aJ s skip))[j]?=some x:=⟨_,AA a2⟩;have a3:=CJ A;have a9:=Ke.NY _ x a3;have O:=c3o A;obtain⟨_,_,_,rfl,_⟩:=M.some oM;refine zW j ?_;refine aT (DI DU (yX.at 0 rfl) (EL O)) ?_;refine zO (a8N x oM _) ?_;refine DF ?_ ?_<;>intro G
  ·have N:aG x=Ke.number x:=by unfold aG;rw[show aY x=true from G];rfl
   refine zW j ?_;refine aT (DI DU (yX.at 0 rfl) (EL O)) ?_;refine zO (c3I x oM _) ?_;refine aS 34 (str (aG x)) rfl (by rw[N]) ?_;refine zW j ?_;refine J.op rfl (MG 0 rfl rfl rfl rfl rfl rfl BD rfl (.inl rfl) (by simp only[wV,wO,b0w];omega) BL.z ?_);refine yU 8 ?_;refine aO (j+1) oM oM rT rfl (by rw[c7T A];rfl)
  have N:aG x=x:=by unfold aG;rw[show aY x=false from G];rfl
  refine yU 8 ?_;refine aO (j+1) oM oM rT rfl (by rw[c6E A N])
 refine yU 6 ?_;have a4:=c9p (aC (aJ s skip)) (j:=j) oM;rw[a4];refine Cj.perm (H':=gH _ _ _++[]) (by rw[yD]) ?_;have a5:AL w0.heap.size 1 (aC (aJ s skip)).length (((aC (aJ s skip)).map aG).map str) g:=PN M sI;refine Cj.NV a5 (fun _ _ hv=>?_);rw[show(aC (aJ s skip)).length=((aC (aJ s skip)).map aG).length from(wO _).symm]at hv ⊢;refine zO (a8a ((aC (aJ s skip)).map aG) _ (by rw[wO];omega) oM _ (FI.of hv)) ?_;refine zM ?_;exact rT
end Go.Proofs.YtalapkjmkjmpjaaGreatDoor
end
namespace Ke
def isb (s:Sub):Option Bs:=if (WC s.text).2=true∧s.code=97 then some (WC s.text).1 else none
end Ke
namespace Ix
open Ke
def JF (w:Bs):Bs→List Bs
 |[]=>if w=[]then[]else[w]
 |c::r=>if digit c then JF (w++[c]) r else if w=[]then JF [] r else w::JF [] r
def a4i (s:Bs):List Bs:=JF [] s
def a0q (s:Bs):Option Bs:=(a4i s).find? fun x=>decide (x.length=4)
structure V where
  name:Bs
  text:Bs
  skip:Nat
def V.key (v:V):Bs:=GL v.text v.skip
def V.ws (v:V):Row:=words v.text
def MV:Bs:=[116,105,116,108,101]
def PO:Bs:=[97,117,116,104,111,114]
def NC:Bs:=[115,117,98,106,101,99,116]
def QH:Bs:=[105,115,98,110]
def a2a:Bs:=[121,101,97,114]
def RY:Bs:=[97,110,121]
def a2Q (f:FN):Bs:=join (f.subs.map (·.text))
def yr (s:Sub):Option Bs:=if s.code=99 then a0q s.text else none
def named (f:FN):Bs×Row:=
 if f.tag=[50,52,53]∨f.tag=[50,52,54]then(MV,[textOf f [97,98]])
 else if f.tag=[49,48,48]∨f.tag=[49,49,48]∨f.tag=[55,48,48]then(PO,[textOf f [97]])
 else if f.tag=[54,48,48]∨f.tag=[54,53,48]then(NC,[textOf f [97,120]])
 else if f.tag=[48,50,48]then(QH,f.subs.filterMap isb)
 else if f.tag=[50,54,48]then(a2a,f.subs.filterMap yr)
 else([],[])
def a3q (f:FN):Nat:=if f.tag=[50,52,53]then skip f else 0
def a4u (f:FN):Bool:= !([48,48]:Bs).isPrefixOf f.tag && !([57]:Bs).isPrefixOf f.tag
def a6t (f:FN):List V:=(named f).2.map (fun s=>⟨(named f).1,s,a3q f⟩)++if a4u f then[⟨RY,a2Q f,0⟩]else[]
def vals (fs:List FN):List V:=fs.flatMap a6t
def ofN (f:FN) (n:Bs):List (Bs×Nat):=
 if n=MV then(if f.tag=[50,52,53]∨f.tag=[50,52,54]then[(textOf f [97,98],a3q f)]else[])
 else if n=PO then(if f.tag=[49,48,48]∨f.tag=[49,49,48]∨f.tag=[55,48,48]then[(textOf f [97],0)]else[])
 else if n=NC then(if f.tag=[54,48,48]∨f.tag=[54,53,48]then[(textOf f [97,120],0)]else[])
 else if n=QH then(if f.tag=[48,50,48]then(f.subs.filterMap isb).map fun s=>(s,0)else[])
 else if n=a2a then(if f.tag=[50,54,48]then(f.subs.filterMap yr).map fun s=>(s,0)else[])
 else if n=RY then(if a4u f then[(a2Q f,0)]else[])
 else[]
def valsN (fs:List FN) (n:Bs):List (Bs×Nat):=fs.flatMap fun f=>ofN f n
abbrev V.ts (v:V):Bs×Nat:=(v.text,v.skip)
theorem a8z n m k (l:Row):((l.map fun s=>(⟨m,s,k⟩:V)).filter fun v=>decide (v.name=n)).map V.ts=if m=n then l.map (fun s=>(s,k))else[]:=by
 rw[bT]
 by_cases h:m=n
 ·subst h;simp only[bD,decide_true,wE,if_true];rw[xQ.2 fun _ _=>rfl]
 simp[bD,h]
theorem c2i f n (hn:n≠RY):(if (named f).1=n then(named f).2.map (fun s=>(s,a3q f))else[])=ofN f n:=by
 unfold ofN;rw[zD (c:=n=RY) hn];have Q:f.tag≠[50,52,53]→a3q f=0:=fun h=>zD h;unfold named
 split
 ·rename_i A
  have a1:¬(f.tag=[49,48,48]∨f.tag=[49,49,48]∨f.tag=[55,48,48]):=by rintro(g|g|g)<;>rw[g]at A<;>revert A<;>decide
  have Z:¬(f.tag=[54,48,48]∨f.tag=[54,53,48]):=by rintro(g|g)<;>rw[g]at A<;>revert A<;>decide
  have N:¬f.tag=[48,50,48]:=by intro g;rw[g]at A;revert A;decide
  have G:¬f.tag=[50,54,48]:=by intro g;rw[g]at A;revert A;decide
  rw[zD a1,zD Z,zD N,zD G]
  by_cases n1:n=MV
  ·subst n1;simp
  simp[n1,bF n1]
 rename_i A
 have hk:a3q f=0:=Q fun g=>A (.inl g);rw[hk]
 split
 ·rename_i M
  have Z:¬(f.tag=[54,48,48]∨f.tag=[54,53,48]):=by rintro(g|g)<;>rw[g]at M<;>revert M<;>decide
  have N:¬f.tag=[48,50,48]:=by intro g;rw[g]at M;revert M;decide
  have G:¬f.tag=[50,54,48]:=by intro g;rw[g]at M;revert M;decide
  rw[zD Z,zD N,zD G]
  by_cases n1:n=PO
  ·subst n1;simp[PO,MV]
  simp[n1,bF n1]
 split
 ·rename_i O
  have N:¬f.tag=[48,50,48]:=by intro g;rw[g]at O;revert O;decide
  have G:¬f.tag=[50,54,48]:=by intro g;rw[g]at O;revert O;decide
  rw[zD N,zD G]
  by_cases n1:n=NC
  ·subst n1;simp[PO,MV,NC]
  simp[n1,bF n1]
 split
 ·rename_i t4
  have G:¬f.tag=[50,54,48]:=by intro g;rw[g]at t4;revert t4;decide
  rw[zD G]
  by_cases n1:n=QH
  ·subst n1;simp[PO,MV,NC,QH]
  simp[n1,bF n1]
 split
 ·by_cases n1:n=a2a
  ·subst n1;simp[PO,MV,NC,QH,a2a]
  simp[n1,bF n1]
 simp
theorem d0f f n:((a6t f).filter fun v=>decide (v.name=n)).map V.ts=ofN f n:=by
 unfold a6t;rw[xR,wG,a8z]
 by_cases hn:n=RY
 ·subst hn;have h1:(named f).1≠RY:=by
   unfold named
   split
   ·exact zA rfl
   split
   ·exact zA rfl
   split
   ·exact zA rfl
   split
   ·exact zA rfl
   split
   ·exact zA rfl
   exact zA rfl
  rw[zD h1];have h2:ofN f RY=if a4u f then[(a2Q f,0)]else[]:=by
   unfold ofN;rw[zD (c:=RY=MV) dE,zD (c:=RY=PO) dE,zD (c:=RY=NC) dE,zD (c:=RY=QH) dE,zD (c:=RY=a2a) dE,zF (c:=RY=RY) rfl]
  rw[h2]
  by_cases g:a4u f=true
  ·rw[zF g,zF g];simp
  rw[zD g,zD g];rfl
 rw[c2i f n hn]
 by_cases g:a4u f=true
 ·rw[zF g];simp[bF hn]
 rw[zD g];simp
theorem b3D fs n:((vals fs).filter fun v=>decide (v.name=n)).map V.ts=valsN fs n:=by
 unfold vals valsN
 induction fs with
 |nil=>rfl
 |cons f r A=>rw[xO,xR,wG,d0f,A,xO]
abbrev Ix:=Ls (List V)
def within (w:Row):Row→Bool
 |[]=>w.isEmpty
 |x::r=>w.isPrefixOf (x::r) || within w r
def a1F (n:Bs) (w:Row) (vs:List V):Bool:=vs.any fun v=>decide (v.name=n) && within w v.ws
def hasK (n k:Bs) (vs:List V):Bool:=vs.any fun v=>decide (v.name=n) && decide (v.key=k)
def phrase (L:Ix) (n:Bs) (w:Row):List Rec:=if w=[]then[]else(L.filter fun e=>a1F n w e.2).map (·.1)
def word (L:Ix) (n s:Bs):List Rec:=if (words s).length=1 then phrase L n (words s)else[]
def JD (L:Ix) (n k:Bs):List Rec:=if k=[]then[]else(L.filter fun e=>hasK n k e.2).map (·.1)
def keyOf (n s:Bs):Bs:=if (WC s).2=true∧n=QH then GL (WC s).1 0 else GL s 0
def keysOf (n:Bs) (vs:List V):Row:=((vs.filter fun v=>decide (v.name=n)).map V.key).filter fun k=>decide (k≠[])
def EW (L:Ix) (n begin:Bs):Row:=((L.flatMap fun e=>keysOf n e.2).filter fun k=>decide (¬k<begin)).foldl put []
def scan (L:Ix) (n s:Bs) (most:Int):List (Bs×Nat):=((EW L n (keyOf n s)).take most.toNat).map fun k=>(k,(JD L n k).length)
def JW (L:Ix) (t:Rec):Bs:=match LX L t with
 |none=>[]
 | some vs=>match vs.find? fun v=>decide (v.name=MV)with
   |none=>[]
   |some v=>v.key
theorem within_iff{w}:∀{l:Row},within w l=true↔w <:+: l
 |[]=>by
  unfold within;rw[List.infix_nil];cases w<;>simp
 |x::r=>by
  unfold within;rw[Bool.or_eq_true,within_iff,List.infix_cons_iff,wW]
theorem a3o{x l}:within [x] l=true↔x∈l:=by
 rw[within_iff];constructor
 ·rintro⟨s,t,rfl⟩;simp
 intro h;obtain⟨s,t,rfl⟩:=List.append_of_mem h;exact⟨s,t,sI⟩
theorem c0z{x w l}(h:within (x::w) l=true):x∈l:=by
 rw[within_iff]at h;exact h.subset (.head _)
end Ix
namespace Ix
open Ke
abbrev Pl:=Bs×Bs
def plW (vs:List V):List Pl:=vs.flatMap fun v=>v.ws.map fun w=>(v.name,w)
def plK (vs:List V):List Pl:=vs.flatMap fun v=>if v.key=[]then[]else[(v.name,v.key)]
def cnt (pl:List V→List Pl) (L:Ix) (p:Pl) (t:Rec):Nat:=match LX L t with
 |none=>0
 |some vs=>(pl vs).count p
def way (f:Pl→Rec→Nat) (t:Rec) (n:Pl→Nat) (p:Pl) (u:Rec):Nat:=if u=t then n p else f p u
theorem a6a{L:Ix}(h:JB L)(t u:Rec)(v:List V):LX (OM t v L) u=if u=t then some v else LX L u:=by
 by_cases hu:u=t
 ·rw[zF hu,JU (WG t v h),TQ t v h,hu];exact .inl rfl
 rw[zD hu];cases hg:LX L u with
 |none=>
  rw[a2m]at hg ⊢;intro e A;rcases(TQ t v h e).1 A with g|g
  ·rw[g];exact bF hu
  exact hg e g.1
 |some x=>
  rw[JU h]at hg;rw[JU (WG t v h),TQ t v h];exact .inr ⟨hg,hu⟩
theorem a3t{L:Ix}(h:JB L) t u:LX (a3K t L) u=if u=t then none else LX L u:=by
 by_cases hu:u=t
 ·rw[zF hu,a2m];intro e A;rw[hu];exact((a0k t L e).1 A).2
 rw[zD hu];cases hg:LX L u with
 |none=>
  rw[a2m]at hg ⊢;exact fun e A=>hg e ((a0k t L e).1 A).1
 |some x=>
  rw[JU h]at hg;rw[JU (a2h t h),a0k];exact⟨hg,hu⟩
theorem b4q{pl L}(h:JB L) t v:cnt pl (OM t v L)=way (cnt pl L) t fun p=>(pl v).count p:=by
 funext p u
 unfold cnt way;rw[a6a h]
 by_cases hu:u=t
 ·rw[zF hu,zF hu]
 rw[zD hu,zD hu]
theorem c0K{pl L}(h:JB L) t:cnt pl (a3K t L)=way (cnt pl L) t fun _=>0:=by
 funext p u
 unfold cnt way;rw[a3t h]
 by_cases hu:u=t
 ·rw[zF hu,zF hu]
 rw[zD hu,zD hu]
theorem c5H{pl L t vs}(h:LX L t=some vs):cnt pl L=way (cnt pl L) t fun p=>(pl vs).count p:=by
 funext p u
 unfold way
 split
 ·rename_i A;unfold cnt;rw[A,h]
 rfl
theorem c7e{pl L t}(h:LX L t=none):cnt pl L=way (cnt pl L) t fun _=>0:=by
 funext p u
 unfold way
 split
 ·rename_i A;unfold cnt;rw[A,h]
 rfl
theorem c0h{L:Ix}(h:JB L)(t:Rec)(v:List V):OM t v (a3K t L)=OM t v L:=by
 refine c2T (WG t v (a2h t h)) (WG t v h) fun e=>?_;rw[TQ t v (a2h t h),TQ t v h,a0k];constructor
 ·rintro(g|g)
  ·exact .inl g
  exact .inr ⟨g.1.1,g.2⟩
 rintro(g|g)
 ·exact .inl g
 exact .inr ⟨g,g.2⟩
theorem a9z{pl L}(h:JB L){p ts}(h1:ts.Pairwise fun a b=>FK a b=true)(h2:∀t,t∈ts↔cnt pl L p t≠0):ts=(L.filter fun e=>decide (p∈pl e.2)).map (·.1):=by
 have key:ts.map (fun t=>(t,()))=((L.filter fun e=>decide (p∈pl e.2)).map fun e=>(e.1,())):=by
  refine c2T (β:=Unit) ?_ ?_ fun e=>?_
  ·unfold JB;rw[uV];exact h1
  ·unfold JB;rw[uV];exact List.Pairwise.filter _ h
  rw[vU,vU];constructor
  ·rintro⟨t,A,rfl⟩;have h3:=(h2 t).1 A;unfold cnt at h3;cases hg:LX L t with
   |none=>rw[hg]at h3;exact absurd rfl h3
   |some vs=>
    rw[hg]at h3;have G:p∈pl vs:=vF.1 (aI.2 h3);exact⟨(t,vs),vW.2 ⟨(JU h).1 hg,zH G⟩,rfl⟩
  rintro⟨⟨t,vs⟩,A,rfl⟩;rw[vW]at A;refine⟨t,(h2 t).2 ?_,rfl⟩;unfold cnt;rw[(JU h).2 A.1];exact aI.1 (vF.2 (zA A.2))
 have:=zC (List.map (·.1)) key;simpa[wE,bD]using this
theorem c9i{vs n w}:(n,w)∈plW vs↔a1F n [w] vs=true:=by
 unfold plW a1F;rw[vV,yF];constructor
 ·rintro⟨v,A,h⟩;obtain⟨x,G,M⟩:=vU.1 h;cases M;exact⟨v,A,by simp[a3o,G]⟩
 rintro⟨v,A,h⟩;rw[yP,zG,a3o]at h;exact⟨v,A,vU.2 ⟨w,h.2,by rw[h.1]⟩⟩
theorem YX{vs n k}:(n,k)∈plK vs↔k≠[]∧hasK n k vs=true:=by
 unfold plK hasK;rw[vV,yF];constructor
 ·rintro⟨v,G,h⟩
  split at h
  ·cases h
  rename_i A
  rw[vN]at h;cases h;exact⟨A,v,G,sI⟩
 rintro⟨A,v,G,h⟩;rw[yP,zG,zG]at h;refine⟨v,G,?_⟩;rw[zD (by rw[h.2];exact A),h.1,h.2];exact vN.2 rfl
theorem b6k{L}(h:JB L){n w ts}(h1:ts.Pairwise fun a b=>FK a b=true)(h2:∀t,t∈ts↔cnt plW L (n,w) t≠0):ts=phrase L n [w]:=by
 rw[a9z h h1 h2];unfold phrase;rw[zD sI]
 congr 2
 funext e
 rw[yM,zG,c9i]
theorem b9L{L}(h:JB L){n k ts}(h1:ts.Pairwise fun a b=>FK a b=true)(h2:∀t,t∈ts↔cnt plK L (n,k) t≠0):ts=JD L n k:=by
 rw[a9z h h1 h2];unfold JD
 by_cases hk:k=[]
 ·rw[zF hk];have:(L.filter fun e=>decide ((n,k)∈plK e.2))=[]:=by
   rw[List.filter_eq_nil_iff];intro e _;rw[zG,YX];exact fun g=>g.1 hk
  rw[this];rfl
 rw[zD hk]
 congr 2
 funext e
 rw[yM,zG,YX];exact⟨fun g=>g.2,fun g=>⟨hk,g⟩⟩
theorem c3O{L} n x w p (A:JB L)(G:∀t vs,LX L t=some vs→p t=a1F n (x::w) vs):(phrase L n [x]).filter p=phrase L n (x::w):=by
 unfold phrase;rw[zD sI,zD sI,bT,List.filter_filter]
 congr 1
 refine List.filter_congr fun e M=>?_;have h1:LX L e.1=some e.2:=(JU A).2 M;show(p e.1 && a1F n [x] e.2)=a1F n (x::w) e.2;rw[G _ _ h1];cases h2:a1F n (x::w) e.2 with
 |false=>rfl
 |true=>
  rw[yJ];unfold a1F at h2 ⊢;rw[yF]at h2 ⊢;obtain⟨v,N,h3⟩:=h2;rw[yP]at h3;exact⟨v,N,by rw[yP];exact⟨h3.1,a3o.2 (c0z h3.2)⟩⟩
end Ix
namespace Ix
open Ke
theorem a8o{n k vs}:k∈keysOf n vs↔(n,k)∈plK vs:=by
 rw[YX];unfold keysOf hasK;rw[vW,vU,zG,yF];constructor
 ·rintro⟨⟨v,A,rfl⟩,G⟩;rw[vW,zG]at A;exact⟨G,v,A.1,by simp[A.2]⟩
 rintro⟨G,v,A,h⟩;rw[yP,zG,zG]at h;exact⟨⟨v,vW.2 ⟨A,zH h.1⟩,h.2⟩,G⟩
theorem a3i{pl L}(h:JB L){p}:(∃t,cnt pl L p t≠0)↔∃e∈L,p∈pl e.2:=by
 constructor
 ·rintro⟨t,A⟩;unfold cnt at A;cases hg:LX L t with
  |none=>rw[hg]at A;exact absurd rfl A
  |some vs=>
   rw[hg]at A;exact⟨(t,vs),(JU h).1 hg,vF.1 (aI.2 A)⟩
 rintro⟨⟨t,vs⟩,G,M⟩;refine⟨t,?_⟩;unfold cnt;rw[(JU h).2 G];exact aI.1 (vF.2 M)
theorem a0c L n b:Inc (EW L n b):=a3H _ List.Pairwise.nil
theorem VD{L}(h:JB L){n b k}:k∈EW L n b↔¬k<b∧∃t,cnt plK L (n,k) t≠0:=by
 unfold EW;rw[a7I,a3i h,vW,vV,zG];constructor
 ·rintro(⟨⟨e,A,G⟩,M⟩|g)
  ·exact⟨M,e,A,a8o.1 G⟩
  cases g
 rintro⟨M,e,A,G⟩;exact .inl ⟨⟨e,A,a8o.2 G⟩,M⟩
theorem WB{L:Ix}(h:JB L){n b:Bs}{ls:List (Bs×Nat)}(h1:Inc (ls.map (·.1)))(h2:∀k,k∈ls.map (·.1)↔¬k<b∧∃t,cnt plK L (n,k) t≠0)(h3:∀x∈ls,x.2=(JD L n x.1).length):ls=(EW L n b).map fun k=>(k,(JD L n k).length):=by
 have A:ls.map (·.1)=EW L n b:=a5g h1 (a0c L n b) fun k=>by rw[h2,VD h]
 rw[←A,wE]
 conv=>lhs;rw[←List.map_id ls]
 refine bI fun x G=>?_;show x=(x.1,(JD L n x.1).length);rw[←h3 x G]
theorem b1I L n s most:((EW L n (keyOf n s)).map fun k=>(k,(JD L n k).length)).take most.toNat=scan L n s most:=by
 unfold scan;rw[←List.map_take]
theorem c6F{L}(h:JB L){n k}{ts:List Rec}(M:ts.Nodup)(h2:∀t,t∈ts↔cnt plK L (n,k) t≠0):ts.length=(JD L n k).length:=by
 have G:(JD L n k).Nodup:=by
  unfold JD
  split
  ·exact .nil
  exact(b2H h).sublist (List.filter_sublist.map _)
 refine List.Perm.length_eq ((List.perm_ext_iff_of_nodup M G).2 fun t=>?_);rw[h2];unfold JD
 by_cases hk:k=[]
 ·rw[zF hk];refine⟨fun g=>?_,fun g=>by cases g⟩;obtain⟨e,_,N⟩:=(a3i h).1 ⟨t,g⟩;exact absurd hk (YX.1 N).1
 rw[zD hk,vU];constructor
 ·intro g;unfold cnt at g;cases hg:LX L t with
  |none=>rw[hg]at g;exact absurd rfl g
  |some vs=>
   rw[hg]at g;have:=YX.1 (vF.1 (aI.2 g));exact⟨(t,vs),vW.2 ⟨(JU h).1 hg,this.2⟩,rfl⟩
 rintro⟨⟨u,vs⟩,A,rfl⟩;rw[vW]at A;unfold cnt;rw[(JU h).2 A.1];exact aI.1 (vF.2 (YX.2 ⟨hk,A.2⟩))
end Ix
namespace Ix
open Ke
def a1P:List Bs:=[[69,109,109,97],
 [84,104,101,32,115,101,97],
 [195,156,98,101,114,32,100,101,110,32,70,108,117,195,159],
 [87,97,114,32,97,110,100,32,112,101,97,99,101],
 [119,97,114,32,38,32,80,69,65,67,69],
 [65,117,115,116,101,110,44,32,74,97,110,101],
 [84,111,108,115,116,111,121],
 [49,57,56,52],
 [57,55,56,48,51,48,54,52,48,54,49,53,55],
 [48,51,48,54,52,48,54,49,53,50],
 [76,111,110,100,111,110],
 [83,101,97,32,115,116,111,114,105,101,115],
 [65],
 [],
 [69,109,109,97,32,97,110,100,32,116,104,101,32,115,101,97],
 [49,57,57,57],
 [99,49,57,57,57,46],
 [82,105,118,101,114,115],
 [79,99,101,97,110,115,32,45,45,32,72,105,115,116,111,114,121],
 [112,101,97,99,101]]
def a9l:List Bs:=[[48,48,49],
 [50,52,53],
 [49,48,48],
 [48,50,48],
 [54,53,48],
 [55,48,48],
 [50,54,48],
 [53,48,48],
 [57,48,48],
 [57,52,57],
 [48,48,56],
 [50,52,54],
 [54,48,48],
 [49,49,48],
 [52,57,48],
 [48,48,51],
 [57,122,57],
 [50,52],
 [57,57,57],
 [48]]
def c7m:List Bs:=[[49,48],
 [32,32],
 [49,32],
 [48,48],
 [48,32],
 [32,48],
 [51,32],
 [49,50]]
def b3w:Bs:=[97,98,99,48,97,118,120,113]
def a1R (n:Int):Bs:=a1P.getD (n % 20).toNat []
def c0r (n:Int):Bs:=a9l.getD (n % 20).toNat []
structure Four where
  x0:Int
  x1:Int
  x2:Int
  x3:Int
def b9J (q:Four) (j:Nat):Sub:=⟨b3w.getD ((q.x2.tdiv 3+(j:Int)*(1+q.x1 % 3)) % 8).toNat 0,a1R (Go.IntKind.wrap .i64 (q.x3+3*(j:Int)))⟩
def isC (t:Bs):Prop:=1<t.length∧t.take 2=[48,48]
instance (t:Bs):Decidable (isC t):=by unfold isC;exact inferInstance
def b3G (q:Four):FN:=if isC (c0r q.x0)then⟨c0r q.x0,[],a1R q.x3,.slice none 0 0,[]⟩
 else⟨c0r q.x0,c7m.getD (q.x1 % 8).toNat [],[],.slice none 0 0,(List.range (1+(q.x2 % 3).toNat)).map fun j=>b9J q j⟩
def b3q (l:List Four):List FN:=(l.take 20).map b3G
structure SX where
  drop:Bool
  src:Int
  num:Int
  fs:List Four
def SX.title (a:SX):Rec:=(a.src,a.num)
def SX.record (a:SX):List FN:=b3q (a.fs.take 8)
def SX.vs (a:SX):List V:=vals a.record
def ents (l:List SX):Ix:=(l.take 20).map fun a=>(a.title,a.vs)
theorem c4Z q:(b3G q).tag.length≤3∧(b3G q).subs.length≤3:=by
 have h1:∀k:Nat,(a9l.getD k []).length≤3:=by
  intro k;rcases tC k 20 with h|h
  ·have:∀k,k<20→(a9l.getD k []).length≤3:=dE;exact this k h
  rw[xK,xE (by simpa[a9l]using h)];simp
 unfold b3G
 split
 ·exact⟨h1 _,sI⟩
 refine⟨h1 _,?_⟩;simp only[wO,List.length_range];omega
theorem a5F n:(a1R n).length≤17:=by
 unfold a1R;generalize (n % 20).toNat=k;rcases tC k 20 with h|h
 ·have:∀k,k<20→(a1P.getD k []).length≤17:=dE;exact this k h
 rw[xK,xE (by simpa[a1P]using h)];simp
end Ix
namespace Ix
open Ke
open Go Go.Lib
theorem a0m c:digit c=decide (48≤c.toNat∧c.toNat≤57):=by
 unfold digit;rw[yM,yP,zG,zG,zG,bG,bG];rfl
def nod (r:Nat):Bool:=decide (r<48) || decide (57<r)
theorem decodeL_N c r:decodeL (c::r)=decodeN (r.length+1) c.toNat (r.getD 0 0).toNat (r.getD 1 0).toNat (r.getD 2 0).toNat:=by
 have:=decode_N ⟨(c::r).toArray⟩ 0;simp only[wU,Nat.sub_zero,sS,aP,aQ]at this;exact this
theorem b5N c r (h:128≤c.toNat):128≤(decodeL (c::r)).1∧∀x∈(c::r).take (decodeL (c::r)).2,128≤x.toNat:=by
 have key:∀k n:Nat,(128≤k∧∀x∈(c::r).take n,128≤x.toNat)→128≤((k,n):Nat×Nat).1∧∀x∈(c::r).take ((k,n):Nat×Nat).2,128≤x.toNat:=fun _ _ h=>h;have h1:128≤((65533,1):Nat×Nat).1∧∀x∈(c::r).take ((65533,1):Nat×Nat).2,128≤x.toNat:=⟨dE,fun x A=>by simp at A;rw[A];exact h⟩;rw[decodeL_N];unfold decodeN;rw[zD oM]
 split
 ·rename_i g
  split
  ·refine key _ _ ⟨oM,fun x A=>?_⟩;rcases r with _|⟨d,r⟩
   ·simp at A;rw[A];exact h
   simp at A g;rcases A with rfl|rfl
   ·exact h
   omega
  exact h1
 split
 ·rename_i g
  split
  ·refine key _ _ ⟨oM,fun x A=>?_⟩;rcases r with _|⟨d,_|⟨e,r⟩⟩
   ·simp at A;rw[A];exact h
   ·simp at g
   simp at A g;rcases A with rfl|rfl|rfl
   ·exact h
   ·omega
   omega
  exact h1
 split
 ·rename_i g
  split
  ·refine key _ _ ⟨oM,fun x A=>?_⟩;rcases r with _|⟨d,_|⟨e,_|⟨f,r⟩⟩⟩
   ·simp at A;rw[A];exact h
   ·simp at g
   ·simp at g
   simp at A g;rcases A with rfl|rfl|rfl|rfl
   ·exact h
   ·omega
   ·omega
   omega
  exact h1
 exact h1
theorem b2h:∀(q:Bs) (w r:Bs),(∀x∈q,digit x=false)→q≠[]→JF w (q++r)=(if w=[]then[]else[w])++JF [] r
 |[],_,_,_,h=>absurd rfl h
 |[c],w,r,h,_=>by
  show JF w (c::r)=_;rw[JF,h c (.head _)];simp only[yL,if_false]
  split<;>rfl
 |c::d::q,w,r,h,_=>by
  have A:=b2h (d::q) [] r (fun x G=>h x (.tail _ G)) sI;rw[zF rfl,vM]at A;show JF w (c::((d::q)++r))=_;rw[JF,h c (.head _),A];simp only[yL,if_false]
  split<;>rfl
theorem b2C w c r (h:digit c=true):JF w (c::r)=JF (w++[c]) r:=by rw[JF,zF h]
theorem a5A s:∀(f pos:Nat) (G:Option Nat) (A:List (Nat×Nat)),s.size≤pos+f→pos≤s.size→(∀a,G=some a→a<pos)→
 A.map (fun p=>pieceU s.data.toList p.1 p.2)++JF (openPiece s.data.toList G pos) (s.data.toList.drop pos)=(closeSpans s (spansFromP nod s f pos G A)).map (fun p=>pieceU s.data.toList p.1 p.2)
 |0,pos,G,A,h,hp,hst=>by
  obtain rfl:pos=s.size:=oM;have hd:s.data.toList.drop s.size=[]:=xX (by rw[←size_eq];exact tH _);rw[hd,JF];cases G with
  |none=>simp[spansFromP,closeSpans,openPiece]
  |some a=>
   have:=pieceU_ne s.data.toList a s.size (hst a rfl) (by rw[←size_eq];exact tH _);simp[spansFromP,closeSpans,openPiece,this]
 |f+1,pos,G,A,h,hp,hst=>by
  by_cases hlt:pos<s.size
  ·have a1:pos<s.data.toList.length:=by rw[←size_eq];exact hlt
   have Z:decodeL (s.data.toList.drop pos)=aK s pos:=decodeL_drop s pos;obtain⟨c,N⟩:∃c,s.data.toList.drop pos=c::s.data.toList.drop (pos+1):=⟨s.data.toList[pos],(wX a1).symm⟩;have hw:=width_pos s pos;have a0:pos+(aK s pos).2≤s.size:=by
    have:=decodeN_le_n' (s.size-pos) (s.get! pos).toNat (s.get! (pos+1)).toNat (s.get! (pos+2)).toNat (s.get! (pos+3)).toNat oM;rw[←decode_at]at this;omega
   simp only[spansFromP,zF hlt]
   by_cases hdig:digit c=true
   ·have a5:48≤c.toNat∧c.toNat≤57:=by rw[a0m]at hdig;exact zA hdig
    have h1:aK s pos=(c.toNat,1):=by
     rw[←Z,N];rw[decodeL_N];unfold decodeN;rw[zF oM]
    have h2:nod c.toNat=false:=by unfold nod;simp;omega
    rw[h1];simp only[h2,yL,if_false];rw[N,b2C _ _ _ hdig];cases G with
    |none=>
     have M:=a5A s f (pos+1) (some pos) A oM oM (fun a h=>by cases h;omega);have e:openPiece s.data.toList none pos++[c]=openPiece s.data.toList (some pos) (pos+1):=by
      show[]++[c]=pieceU s.data.toList pos (pos+1);unfold pieceU;rw[N,tK];rfl
     rw[e];exact M
    |some a=>
     have M:=a5A s f (pos+1) (some a) A oM oM (fun b h=>by cases h;have:=hst a rfl;omega);have e:openPiece s.data.toList (some a) pos++[c]=openPiece s.data.toList (some a) (pos+1):=by
      have:=pieceU_grow s.data.toList a pos 1 (by have:=hst a rfl;omega);rw[N]at this;exact this
     rw[e];exact M
   have h3:nod (aK s pos).1=true∧∀x∈(s.data.toList.drop pos).take (aK s pos).2,digit x=false:=by
    rw[←Z,N]
    by_cases h128:c.toNat<128
    ·have h1:decodeL (c::s.data.toList.drop (pos+1))=(c.toNat,1):=by
      rw[decodeL_N];unfold decodeN;rw[zF h128]
     rw[h1];refine⟨?_,fun x Q=>?_⟩
     ·rw[a0m,zG]at hdig;unfold nod;simp;omega
     simp at Q;rw[Q];simpa using hdig
    obtain⟨_,g2⟩:=b5N c (s.data.toList.drop (pos+1)) oM;refine⟨by unfold nod;simp;omega,fun x Q=>?_⟩;have:=g2 x Q;rw[a0m];simp;omega
   have O:s.data.toList.drop pos=(s.data.toList.drop pos).take (aK s pos).2++s.data.toList.drop (pos+(aK s pos).2):=by
    rw[←xY,uD]
   have a2:(s.data.toList.drop pos).take (aK s pos).2≠[]:=by
    intro h0;have:=zC List.length h0;rw[wI,wS]at this;simp at this;omega
   simp only[h3.1,if_true];rw[O,b2h _ _ _ h3.2 a2];cases G with
   |none=>
    have M:=a5A s f (pos+(aK s pos).2) none A oM a0 (fun a h=>by cases h);simpa[openPiece]using M
   |some a=>
    have a3:=pieceU_ne s.data.toList a pos (hst a rfl) (by rw[←size_eq];omega);have M:=a5A s f (pos+(aK s pos).2) none (A++[(a,pos)]) oM a0 (fun a h=>by cases h);simpa[openPiece,a3]using M
  have a4:pos=s.size:=oM;have hd:s.data.toList.drop pos=[]:=xX (by rw[←size_eq];omega);rw[spansFromP_end nod s _ pos G A hlt,hd,JF];subst a4;cases G with
  |none=>simp[closeSpans,openPiece]
  |some a=>
   have:=pieceU_ne s.data.toList a s.size (hst a rfl) (by rw[←size_eq];exact tH _);simp[closeSpans,openPiece,this]
theorem b0o(s:ByteArray) a b:s.extract a b=⟨(pieceU s.data.toList a b).toArray⟩:=by
 apply ByteArray.ext
 rw[ByteArray.data_extract]
 apply Array.ext'
 rw[Array.toList_extract];unfold pieceU;simp[List.extract_eq_take_drop]
theorem fieldsD s:goFieldsP nod ⟨s.toArray⟩=(a4i s).map fun x=>⟨x.toArray⟩:=by
 have h:=a5A ⟨s.toArray⟩ (ByteArray.mk s.toArray).size 0 none [] oM oM (fun _ h=>by cases h);simp only[wC,vM,openPiece,xU]at h;unfold goFieldsP spansOfP a4i;rw[h,wE];refine bI fun p _=>?_;rw[b0o];rfl
theorem a8O:∀(d w r:Bs),(∀x∈d,digit x=true)→JF w (d++r)=JF (w++d) r
 |[],w,r,_=>by rw[vM,yD]
 |c::d,w,r,h=>by
  show JF w (c::(d++r))=_;rw[b2C _ _ _ (h c (.head _)),a8O d _ r fun x A=>h x (.tail _ A),yE];rfl
theorem b6J w r (h:r=[]∨∃c q,r=c::q∧digit c=false):JF w r=(if w=[]then[]else[w])++JF [] (r.drop 1):=by
 rcases h with rfl|⟨c,q,rfl,A⟩
 ·rw[JF,List.drop_nil,JF,zF rfl,yD]
 rw[JF,A];simp only[yL,if_false,bW,List.tail_cons]
 split<;>rfl
theorem b0T t:a0q t=if (t.takeWhile digit).length=4 then some (t.take 4)else a0q (t.drop ((t.takeWhile digit).length+1)):=by
 have A:t.takeWhile digit++t.dropWhile digit=t:=List.takeWhile_append_dropWhile;have Z:∀x∈t.takeWhile digit,digit x=true:=fun x hx=>yG.1 List.all_takeWhile x hx;have hr:t.dropWhile digit=[]∨∃c q,t.dropWhile digit=c::q∧digit c=false:=by
  cases h:t.dropWhile digit with
  |nil=>exact .inl rfl
  |cons c q=>
   refine .inr ⟨c,q,rfl,?_⟩;have:=List.head?_dropWhile_not digit t;rw[h]at this;simpa using this
 have G:t.take (t.takeWhile digit).length=t.takeWhile digit:=by
  have h:=List.take_left (l₁:=t.takeWhile digit) (l₂:=t.dropWhile digit)
  rwa [A]at h
 have N:(t.dropWhile digit).drop 1=t.drop ((t.takeWhile digit).length+1):=by
  have:t.drop (t.takeWhile digit).length=t.dropWhile digit:=by
   have h:=List.drop_left (l₁:=t.takeWhile digit) (l₂:=t.dropWhile digit)
   rwa [A]at h
  rw[←this,xY]
 have O:a4i t=(if t.takeWhile digit=[]then[]else[t.takeWhile digit])++a4i (t.drop ((t.takeWhile digit).length+1)):=by
  unfold a4i
  conv=>lhs;rw[←A]
  rw[a8O _ _ _ Z,vM,b6J _ _ hr,N]
 unfold a0q;rw[O,List.find?_append]
 by_cases h4:(t.takeWhile digit).length=4
 ·rw[zF h4];have M:t.takeWhile digit≠[]:=by intro h0;rw[h0]at h4;cases h4
  rw[zD M];have Q:[t.takeWhile digit].find? (fun x=>decide (x.length=4))=some (t.takeWhile digit):=by simp[h4]
  rw[Q];rw[h4]at G;rw[G];rfl
 rw[zD h4]
 by_cases M:t.takeWhile digit=[]
 ·rw[zF M];rfl
 have Q:[t.takeWhile digit].find? (fun x=>decide (x.length=4))=none:=by simp[h4]
 rw[zD M,Q];rfl
theorem c6T:a0q []=none:=rfl
end Ix
namespace Go.Sx
open Go Go.RowKit
theorem yY.d0R{P f args I T l vals}(hv:vals=l.map str)(he:Enters P f)
 (h:∀w,Calls P f args.toArray w fun e w'=>∃A,e= .returned (.slice (some ⟨A,0,none⟩) l.length l.length)∧w.heap.size≤A∧w'.ownsRow w.heap.size T 1 (.slice (some ⟨A,0,none⟩) l.length l.length) l.length vals∧Below w.heap.size w w'):
 yY P f args I [] (fun e I' H'=>∃v,e= .returned v∧IV T I' l v∧H'=[]):=by
 refine⟨he,fun w hw=>(h w).mono ?_⟩;rintro e w' ⟨A,rfl,hA,G,M⟩;obtain⟨r1,-,-,-⟩:=hw;have Z:∀{b:Nat} {o:Obj},I b=some o→b<w.heap.size:=fun {b o} N=>by
  have:=r1 b o N;rcases tC b w.heap.size with h'|h'
  ·exact h'
  rw[yR h']at this;cases this
 obtain⟨-,G⟩:=G;obtain⟨g,_,O,hs,-,hc,_,-,_,a2⟩:=G.resolve_left fun g=>by cases g.1
 cases hs;have a0:(.cells O T (0,0):Obj)=yV T (l.map str++O.toList.drop l.length):=by
  unfold yV;rw[←hv,←a2,Nat.mul_one,uD]
 rw[a0]at hc;have a3:St w [] I I [(A,yV T (l.map str++O.toList.drop l.length))] w':=
  ⟨M.os,M.tape,M.output,M.size,fun b N _=>M.block b N,fun b o N=>by rw[M.block b (Z N)];exact r1 b o N,fun p Q=>by rw[vN.1 Q];exact hc,sI,fun p Q=>by
   rw[vN.1 Q];cases hI:I A with
   |none=>rfl
   |some o=>have:=Z hI;omega,fun p Q=>by rw[vN.1 Q];exact .inr hA,fun _ _=>rfl,Le.refl _,a2u⟩
 have a1:=a3.persist hA;exact⟨_,_,a1,_,rfl,.inr ⟨A,l.length,_,rfl,tH _,a1f _ _ _⟩,rfl⟩
theorem yY.c8F{P f args I T}{l:List (List UInt8)}{vals}(hv:vals=l.map str)(he:Enters P f)
 (h:∀w,(∀b o,I b=some o→w.heap[b]?=some o)→Calls P f args.toArray w fun e w'=>∃A,e= .returned (.slice (some ⟨A,0,none⟩) l.length l.length)∧w.heap.size≤A∧w'.ownsRow w.heap.size T 1 (.slice (some ⟨A,0,none⟩) l.length l.length) l.length vals∧Below w.heap.size w w'):
 yY P f args I [] (fun e _ H'=>∃b sp,e= .returned (.slice (some ⟨b,0,none⟩) l.length l.length)∧H'=[(b,yV T (l.map str++sp))]):=by
 refine⟨he,fun w hw=>(h w hw.1).mono ?_⟩;rintro e w' ⟨A,rfl,hA,G,M⟩;obtain⟨r1,-,-,-⟩:=hw;have Z:∀{b:Nat} {o:Obj},I b=some o→b<w.heap.size:=fun {b o} N=>by
  have:=r1 b o N;rcases tC b w.heap.size with h'|h'
  ·exact h'
  rw[yR h']at this;cases this
 obtain⟨-,G⟩:=G;obtain⟨g,_,O,hs,-,hc,_,-,_,a1⟩:=G.resolve_left fun g=>by cases g.1
 cases hs;have a0:(.cells O T (0,0):Obj)=yV T (l.map str++O.toList.drop l.length):=by
  unfold yV;rw[←hv,←a1,Nat.mul_one,uD]
 rw[a0]at hc;have a2:St w [] I I [(A,yV T (l.map str++O.toList.drop l.length))] w':=
  ⟨M.os,M.tape,M.output,M.size,fun b N _=>M.block b N,fun b o N=>by rw[M.block b (Z N)];exact r1 b o N,fun p Q=>by rw[vN.1 Q];exact hc,sI,fun p Q=>by
   rw[vN.1 Q];cases hI:I A with
   |none=>rfl
   |some o=>have:=Z hI;omega,fun p Q=>by rw[vN.1 Q];exact .inr hA,fun _ _=>rfl,Le.refl _,a2u⟩
 exact⟨_,_,a2,_,_,rfl,rfl⟩
