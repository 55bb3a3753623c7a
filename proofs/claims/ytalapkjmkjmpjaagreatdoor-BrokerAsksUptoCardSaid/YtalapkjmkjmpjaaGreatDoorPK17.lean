/-
  Own texts on the laws of the seat, joined: the logic, and contracts of functions. Conditions: none.
-/
import Derived.Test.YtalapkjmkjmpjaaGreatDoorNmK
import Derived.Test.YtalapkjmkjmpjaaGreatDoorPK12
set_option linter.all false
set_option maxRecDepth 100000
set_option maxHeartbeats 40000000
open Ke renaming first -> aA,digit -> aB,textOf -> aF,up -> aG,put -> aJ,title -> aP,digits -> aT,words -> aW,okb -> aX,val -> aZ,TD -> bC,a3E -> bD,nb -> bF,pg -> bK,a3D -> bM,a3U -> bV,books -> bZ,all -> cO,a6U -> dA,WC -> dF,FN -> dK
open Go.Sx.Ej renaming round -> aC,keep -> bJ
open Go.Sx.J renaming ez -> aH,z -> aI,zg -> bY
open Go.Sx.yX renaming YR -> aK
open Go.Proofs.Tryz renaming prog -> aN
open Go.Sx.AX renaming c -> aO,z -> dI
open Ix renaming valsN -> aQ,a0q -> aU,ofN -> bG,a2Q -> bQ,a0m -> bU,NC -> bW,PO -> cZ,MV -> dG,QH -> dL,a2a -> dM
open Go.Sx.Keeps renaming d -> aS,r -> bP,n -> dD,k -> dN
open Nat renaming min_eq_right -> aV
open Go.Sx.Cj renaming loop -> aY,NV -> dH
open Go.Value renaming int -> bH
open Go.Sx.yY renaming toPure -> bI
open Option renaming toList -> bT
open Go.Proofs.YtalapkjmkjmpjaaGreatDoor.FI renaming of -> dB
open Go.Sx.BL renaming z -> dJ
section
namespace Go.Proofs.YtalapkjmkjmpjaaGreatDoor
open _root_.Go.Proofs.Tryz
open Go Go.Sx
def rn (s:List UInt8):List UInt8:=(s.takeWhile aX).filter bF
theorem c0p{c}(h:c.toNat=88∨c.toNat=120):aG c=88:=by
 rcases h with h|h
 ·rw[show c=88 from sJ.1 (by rw[h];rfl)];rfl
 rw[show c=120 from sJ.1 (by rw[h];rfl)];rfl
theorem b7n{c}(h:aB c=true):aG c=c:=(Ke.digit_ok h).2.2
theorem c1G{c}(h:aB c=true):aZ c=c.toNat-48:=by
 have:=bC.1 h;unfold aZ;rw[zD fun e=>by rw[e]at this;exact absurd this.2 dE]
theorem d1l{c}(h:(48≤c.toNat∧c.toNat≤57)∨c.toNat=88∨c.toNat=120):aX c=true∧bF c=true:=by
 revert h;exact bM (p:=fun c=>(48≤c.toNat∧c.toNat≤57)∨c.toNat=88∨c.toNat=120→aX c=true∧bF c=true) (by decide +kernel) c
theorem c7o{c}(h:c.toNat=32∨c.toNat=45):aX c=true∧bF c=false:=by
 revert h;exact bM (p:=fun c=>c.toNat=32∨c.toNat=45→aX c=true∧bF c=false) (by decide +kernel) c
theorem d0i{c}(h:¬((48≤c.toNat∧c.toNat≤57)∨c.toNat=88∨c.toNat=120∨c.toNat=32∨c.toNat=45)):aX c=false:=by
 revert h;exact bM (p:=fun c=>¬((48≤c.toNat∧c.toNat≤57)∨c.toNat=88∨c.toNat=120∨c.toNat=32∨c.toNat=45)→aX c=false) (by decide +kernel) c
theorem c5b s:∀c∈rn s,aB c=true∨c.toNat=88∨c.toNat=120:=fun c A=>by
 obtain⟨h1,h2⟩:=vW.1 A;have h3:aX c=true:=yG.1 (List.all_takeWhile (p:=aX)) c h1;revert h2 h3;exact bM (p:=fun d=>bF d=true→aX d=true→aB d=true∨d.toNat=88∨d.toNat=120) (by decide +kernel) c
theorem d0S s:(rn s).length≤s.length:=FD (wP _ _) (List.takeWhile_prefix _).length_le
theorem a7n{s:List UInt8}{k c}(h:s[k]?=some c):(s.take (k+1)).filter bF=(s.take k).filter bF++(if bF c then[c]else[]):=by
 obtain⟨A,G⟩:=xC.1 h;rw[tN A,G,xR];cases hn:bF c<;>simp[hn]
theorem a5l{t}(h:∀c∈t,aB c=true∨c.toNat=88∨c.toNat=120):aT (t.map aG)=aT t:=by
 induction t with
 |nil=>rfl
 |cons c r G=>
  rw[wF,dA,dA,G fun d A=>h d (.tail _ A)];rcases h c (.head _)with e|e
  ·rw[b7n e]
  rw[c0p e];have:aB c=false:=by
   rcases A:aB c with _|_
   ·rfl
   have:=bC.1 A;omega
  rw[this];rfl
theorem WM{t}(h:aT t=true):t.map aG=t:=Ke.c0n h
theorem a4F{s:List UInt8}{j c}(G:j<9)(A:s[j]?=some c)(M:c.toNat=88∨c.toNat=120):bD (s.map aG)=false:=by
 have h1:((s.map aG).take 9)[j]?=some (aG c):=by rw[wZ,zF G,xB,A];rfl
 have h2:aT ((s.map aG).take 9)=false:=by
  refine a9P h1 ?_;rw[c0p M];decide
 unfold bD;rw[h2,Bool.and_false]
theorem b2j s (a2:12≤s.length)(hs:s.length≤1000000000)(hd:aT (s.take 12)=true) I:Pure aN 230 [str s] I (u8 (Ke.check s)):=by
 refine zN func230 fun w0 _=>?_;refine yU 17 ?_;refine aY (ι:=Nat) (fun j=>j≤12) (fun j=>12-j) (fun j=>[(0,str s),(3,i64 ((bV 0 ((s.take 12).take j):Nat):Int)),(4,i64 (j:Int))]) (fun j=>I) (fun j=>[]) 0 (sQ _) rT rfl rfl ?_;intro j _;have Z:=b0N ((s.take 12).take j) 0;rw[wI,wI]at Z;refine yZ ?_ ?_<;>intro a0 O
 ·have a1:j<s.length:=oM;obtain⟨c,A⟩:∃c,s[j]?=some c:=⟨_,AA a1⟩;have G:(s.take 12)[j]?=some c:=by rw[wZ,zF oM];exact A
  have hc:=a5q hd G;refine yU 8 ?_;refine aI (IC AV A) ?_;refine aI (VG rfl rfl rfl (w8 oM)) ?_;refine yU 1 ?_;refine aH 14 (i64 ((c.toNat-48:Nat):Int)) rfl (zC i64 ((IJ oM).trans oM)) ?_;refine yU 8 ?_;refine aH 16 (i64 ((j % 2:Nat):Int)) rfl rfl ?_;refine yZ ?_ ?_<;>intro M Q
  ·have h2:j % 2=1:=by have h:=BP M;omega
   refine yU 19 ?_;refine aC (j+1) oM oM ⟨rfl,by rw[a4R G,h2];exact zC (fun z=>some (bH .i64 z)) oM,rfl,trivial⟩ rfl rfl
  have h2:j % 2=0:=by have h:=CB M;omega
  refine yU 15 ?_;refine aC (j+1) oM oM ⟨rfl,by rw[a4R G,h2];exact zC (fun z=>some (bH .i64 z)) oM,rfl,trivial⟩ rfl rfl
 have N:(s.take 12).take j=s.take 12:=tX (by rw[wI];omega);refine yU 9 ?_;refine aH 24 (i64 ((bV 0 (s.take 12) % 10:Nat):Int)) rfl (by rw[N];rfl) ?_;refine yU 1 ?_;refine aH 25 (i64 ((10-bV 0 (s.take 12) % 10:Nat):Int)) rfl (zC i64 oM) ?_;refine yU 1 ?_;refine aH 26 (i64 (((10-bV 0 (s.take 12) % 10) % 10:Nat):Int)) rfl rfl ?_;refine yU 1 ?_;refine aH 27 (i64 ((48+(10-bV 0 (s.take 12) % 10) % 10:Nat):Int)) rfl (zC i64 oM) ?_;refine yU 1 ?_;refine aH 28 (u8 (Ke.check s)) rfl (zC (bH .u8) (a2l oM)) ?_;refine zM ?_;exact rT
theorem c6g(a b:Nat):((a:Int) == (b:Int))=(a == b):=by
 rw[yM,beq_iff_eq,beq_iff_eq];omega
theorem c6e{s:List UInt8}{j c}(N:j≤10)(A:(s.take (min j 9)).all aB=true)(G:s[j]?=some c)(M:aB c=true):(s.take (min (j+1) 9)).all aB=true:=by
 rcases tC j 9 with h|h
 ·rw[sW oM]at A ⊢;exact c3p A G M
 rw[aV oM]at A ⊢;exact A
theorem c9U s (aa:s.length=10)(hx:∀c∈s,aB c=true∨c.toNat=88∨c.toNat=120) I:Pure aN 229 [str s] I (.bool (bD (s.map aG))):=by
 refine zN func229 fun w0 _=>?_;refine yU 17 ?_;refine aY (ι:=Nat) (fun j=>j≤10∧(s.take (min j 9)).all aB=true) (fun j=>10-j) (fun j=>[(0,str s),(3,i64 ((Ke.a1m 0 ((s.map aG).take j):Nat):Int)),(4,i64 (j:Int))]) (fun j=>I) (fun j=>[]) 0 ⟨sQ _,rfl⟩ rT rfl rfl ?_;rintro j ⟨hj,A⟩;have ab:=b0j ((s.map aG).take j) 0;rw[wI,wO,aa]at ab;refine yZ ?_ ?_<;>intro ac a6
 ·have ad:j<s.length:=oM;obtain⟨c,G⟩:∃c,s[j]?=some c:=⟨_,AA ad⟩;have M:(s.map aG)[j]?=some (aG c):=by rw[xB,G];rfl
  have a4:=hx c (CJ G);have ag:=c.toNat_lt;have ah:48≤c.toNat:=a4.elim (fun h=>(bC.1 h).1) (fun h=>oM);have hm:(10-j)*aZ (aG c)≤10*255:=Nat.mul_le_mul oM (b4Y _);refine yU 8 ?_;refine aI (IC AV G) ?_;refine yU 1 ?_;refine aH 13 (i64 (c.toNat:Int)) rfl (zC i64 (IJ oM)) ?_;refine yU 1 ?_;refine aH 14 (i64 ((c.toNat-48:Nat):Int)) rfl (zC i64 oM) ?_;refine yU 8 ?_;refine aI (IC AV G) ?_;refine EH ?_ ?_<;>intro N
  ·have ae:=BP N;refine yU 9 ?_;have O:c.toNat=88∨c.toNat=120:=oM;have a5:aZ (aG c)=10:=by rw[c0p O];rfl
   refine yZ ?_ ?_<;>intro Q a7
   ·have Z:=DK Q;refine zM ?_;rw[a4F oM G O];exact rT
   have Z:=DN Q;refine yU 6 ?_;refine aH 29 (i64 ((10-j:Nat):Int)) rfl (zC i64 oM) ?_;refine yU 1 ?_;refine aH 30 (i64 ((aZ (aG c):Nat):Int)) rfl (zC i64 oM) ?_;refine aI (a0o rfl rfl rfl (IJ (by rw[←yI];omega))) ?_;refine aH 31 (i64 (((10-j)*aZ (aG c):Nat):Int)) rfl (zC i64 (yI _ _).symm) ?_;refine yU 10 ?_;refine aC (j+1) ⟨oM,by rw[aV oM]at A ⊢;exact A⟩ oM ⟨rfl,by rw[a0r M];exact zC (fun z=>some (bH .i64 z)) oM,rfl,trivial⟩ rfl rfl
  have ae:=CB N;refine yU 2 ?_;refine bY (IC AV G) ?_;refine yZ ?_ ?_<;>intro a0 a8
  ·have af:=BP a0;refine yU 1 ?_;have O:c.toNat=88∨c.toNat=120:=oM;have a5:aZ (aG c)=10:=by rw[c0p O];rfl
   refine yZ ?_ ?_<;>intro a1 a9
   ·have Z:=DK a1;refine zM ?_;rw[a4F oM G O];exact rT
   have Z:=DN a1;refine yU 6 ?_;refine aH 29 (i64 ((10-j:Nat):Int)) rfl (zC i64 oM) ?_;refine yU 1 ?_;refine aH 30 (i64 ((aZ (aG c):Nat):Int)) rfl (zC i64 oM) ?_;refine aI (a0o rfl rfl rfl (IJ (by rw[←yI];omega))) ?_;refine aH 31 (i64 (((10-j)*aZ (aG c):Nat):Int)) rfl (zC i64 (yI _ _).symm) ?_;refine yU 10 ?_;refine aC (j+1) ⟨oM,by rw[aV oM]at A ⊢;exact A⟩ oM ⟨rfl,by rw[a0r M];exact zC (fun z=>some (bH .i64 z)) oM,rfl,trivial⟩ rfl rfl
  have af:=CB a0;have a2:aB c=true:=a4.resolve_right oM;have a5:aZ (aG c)=c.toNat-48:=by rw[b7n a2];exact c1G a2
  refine yU 6 ?_;refine aH 29 (i64 ((10-j:Nat):Int)) rfl (zC i64 oM) ?_;refine yU 1 ?_;refine aH 30 (i64 ((aZ (aG c):Nat):Int)) rfl (zC i64 oM) ?_;refine aI (a0o rfl rfl rfl (IJ (by rw[←yI];omega))) ?_;refine aH 31 (i64 (((10-j)*aZ (aG c):Nat):Int)) rfl (zC i64 (yI _ _).symm) ?_;refine yU 10 ?_;refine aC (j+1) ⟨oM,by exact c6e hj A G a2⟩ oM ⟨rfl,by rw[a0r M];exact zC (fun z=>some (bH .i64 z)) oM,rfl,trivial⟩ rfl rfl
 have a3:(s.map aG).take j=s.map aG:=tX (by rw[wO];omega);refine yU 9 ?_;refine aH 34 (i64 ((Ke.a1m 0 (s.map aG) % 11:Nat):Int)) rfl (by rw[a3];rfl) ?_;refine zM ?_;have hr:bD (s.map aG)=(Ke.a1m 0 (s.map aG) % 11 == 0):=by
  unfold bD;rw[←List.map_take,WM (show aT (s.take 9)=true by rw[aV oM]at A;exact A),show aT (s.take 9)=true by rw[aV oM]at A;exact A,yO]
 rw[hr];exact⟨zC (fun b=>Ending.returned (.bool b)) (c6g _ _),rfl,rfl⟩
theorem c7J{s j}(G:¬j<s.length)(A:(s.take j).all aX=true):(s.take j).filter bF=rn s:=by
 rw[tX oM]at A ⊢;unfold rn;rw[a2O A]
theorem d0r{s j c}(A:(s.take j).all aX=true)(G:s[j]?=some c)(M:aX c=false):(s.take j).filter bF=rn s:=by
 unfold rn;rw[a8h A G M]
theorem a7X(s:List UInt8)(hs:s.length≤100000000)(I:Heap):Pure Tryz.prog 151 [str s] I (.tuple #[str (Ke.WC s).1,.bool (Ke.WC s).2]):=by
 refine yY.toPure ?_;have hnl:=d0S s;have hnc:=c5b s;have hiN:Ke.WC s=Ke.b3o ((rn s).map Ke.up):=rfl;have hml:((rn s).map Ke.up).length=(rn s).length:=List.length_map _;refine zN func151 fun w0 hw0=>?_;refine yU 11 ?_;refine Cj.join (ι:=Unit) (fun _y=>True) (fun _y=>[(4,str (rn s))]) (fun _y=>I) (fun _y=>[]) ?_ (fun hcut=>?_)
 ·rintro _ -;refine Cj.join (ι:=Unit) (fun _y=>¬(((rn s).map Ke.up).length=10∧Ke.a3E ((rn s).map Ke.up)=true)) (fun _y=>[(4,str (rn s))]) (fun _y=>I) (fun _y=>[]) ?_ (fun hcut=>?_)
  ·rintro _ hno;refine zO (a8N (rn s) (by omega) _) ?_;refine yU 3 ?_;refine Cj.join (ι:=Unit) (fun _y=>¬(((rn s).map Ke.up).length=13∧Ke.digits ((rn s).map Ke.up)=true∧Ke.check ((rn s).map Ke.up)=((rn s).map Ke.up).getD 12 0)) (fun _y=>[(4,str (rn s))]) (fun _y=>I) (fun _y=>[]) ?_ (fun hcut=>?_)
   ·rintro _ hno2;refine zM ?_;have he:Ke.WC s=([],false):=by rw[hiN];unfold Ke.b3o;rw[zD hno,zD hno2]
    rw[he];exact⟨rfl,rfl⟩
   refine yU 1 ?_;refine Cj.EX [] [] 13 (by kernel_rfl) ?_;refine yU 4 ?_;refine JA.split 63 rfl (fun hg2=>?_) (fun hg2=>?_)
   rotate_left
   ·have hno2:¬(((rn s).map Ke.up).length=13∧Ke.digits ((rn s).map Ke.up)=true∧Ke.check ((rn s).map Ke.up)=((rn s).map Ke.up).getD 12 0):=fun e=>CB hg2 (by rw[←hml,e.1];rfl);refine yU 13 ?_;exact hcut () _ _ _ hno2 ⟨rfl,trivial⟩ rfl rfl
   have h13:(rn s).length=13:=by have h:=BP hg2;omega
   refine yU 3 ?_;refine JA.split 66 rfl (fun hg3=>?_) (fun hg3=>?_)
   rotate_left
   ·have hno2:¬(((rn s).map Ke.up).length=13∧Ke.digits ((rn s).map Ke.up)=true∧Ke.check ((rn s).map Ke.up)=((rn s).map Ke.up).getD 12 0):=fun e=>Bool.noConfusion (((a5l hnc).symm.trans e.2.1).symm.trans hg3);refine yU 10 ?_;exact hcut () _ _ _ hno2 ⟨rfl,trivial⟩ rfl rfl
   have hdg:Ke.digits (rn s)=true:=hg3;have hd13:Ke.digits ((rn s).take 12)=true:=List.all_eq_true.2 fun c hc=>List.all_eq_true.1 hdg c (List.mem_of_mem_take hc);obtain⟨d,hg12⟩:∃c,(rn s)[12]?=some c:=⟨_,AA (by omega)⟩;have hgd:((rn s).map Ke.up).getD 12 0=d:=by rw[WM hdg,List.getD,hg12];rfl
   refine yU 2 ?_;refine JA.fix CP (fun fx1=>?_);refine JA.tkG 10 6 66 true _ rfl fx1 rfl rfl hg3 (IC AV hg12) ?_;refine zO (b2j (rn s) (by omega) (by omega) hd13 _) ?_;refine yZ (fun hc5 hc5p=>?_) (fun hc5 hc5p=>?_)
   ·have hck:Ke.check ((rn s).map Ke.up)=((rn s).map Ke.up).getD 12 0:=by have h:=BP hc5;rw[hgd,WM hdg];exact UInt8.toNat_inj.1 (by omega)
    refine zM ?_;have he:Ke.WC s=(rn s,true):=by rw[hiN];unfold Ke.b3o;rw[zD hno,zF ⟨hml.trans h13,(a5l hnc).trans hdg,hck⟩,WM hdg]
    rw[he];exact⟨rfl,rfl⟩
   ·have hno2:¬(((rn s).map Ke.up).length=13∧Ke.digits ((rn s).map Ke.up)=true∧Ke.check ((rn s).map Ke.up)=((rn s).map Ke.up).getD 12 0):=fun e=>CB hc5 (by have h:=e.2.2;rw[hgd,WM hdg]at h;rw[h]);refine yU 1 ?_;exact hcut () _ _ _ hno2 ⟨rfl,trivial⟩ rfl rfl
  refine yZ (fun hc8 hc8p=>?_) (fun hc8 hc8p=>?_)
  ·have h10:(rn s).length=10:=by have h:=BP hc8;omega
   refine zO (c9U (rn s) h10 hnc _) ?_;refine DF (fun hc9=>?_) (fun hc9=>?_)
   ·have hrs:Ke.a3E ((rn s).map Ke.up)=true:=hc9;have hd9:Ke.digits ((rn s).take 9)=true:=by rw[←a5l (fun c hc=>hnc c (List.mem_of_mem_take hc)),List.map_take];exact(Bool.and_eq_true_iff.1 hrs).2
    have htk9:((rn s).map Ke.up).take 9=(rn s).take 9:=by rw[←List.map_take,WM hd9]
    have hd12:=b2I (b:=[]) hd9 (by rw[List.length_take];omega);rw[List.append_nil]at hd12;refine yU 3 ?_;refine J.z (AO (p:=0) (q:=9) rfl rfl AV rfl ⟨_,rfl⟩ (by omega) (by omega)) ?_;refine J.ez 50 (str ((rn s).take 9)) rfl (by rw[List.drop_zero]) ?_;refine J.z (BQ rfl rfl rfl (by first|omega|(simp only[List.length_append];omega)|(simp;omega))) ?_;refine zO (b2j _ (by simp;omega) (by simp;omega) hd12 _) ?_;refine yU 1 ?_;intro b10 hb10;refine J.z (OE [Ke.check ([57,55,56]++(rn s).take 9)] rfl rfl rfl KE AV tU5 (yX.at 0 rfl) rfl) ?_;refine J.z (BQ rfl rfl rfl (by first|omega|(simp only[List.length_append];omega)|(simp;omega))) ?_;refine zV ?_;have he:Ke.WC s=([57,55,56]++(rn s).take 9++[Ke.check ([57,55,56]++(rn s).take 9)],true):=by rw[hiN];unfold Ke.b3o;rw[zF ⟨hml.trans h10,hrs⟩,htk9]
    rw[he];exact⟨rfl,rfl⟩
   have hno:¬(((rn s).map Ke.up).length=10∧Ke.a3E ((rn s).map Ke.up)=true):=fun e=>Bool.noConfusion (e.2.symm.trans hc9);refine yU 1 ?_;exact hcut () _ _ _ hno ⟨rfl,trivial⟩ rfl rfl
  have hno:¬(((rn s).map Ke.up).length=10∧Ke.a3E ((rn s).map Ke.up)=true):=fun e=>CB hc8 (by rw[←hml,e.1];rfl);refine yU 1 ?_;exact hcut () _ _ _ hno ⟨rfl,trivial⟩ rfl rfl
 refine yU 6 ?_;refine Cj.loop (ι:=Nat) (fun j=>j≤s.length∧(s.take j).all Ke.okb=true) (fun j=>s.length-j) (fun j=>[(0,str s),(4,str ((s.take j).filter Ke.nb)),(5,i64 (j:Int))]) (fun j=>_) (fun j=>[]) 0 ⟨Nat.zero_le _,rfl⟩ ⟨rfl,rfl,rfl,trivial⟩ rfl rfl ?_;rintro j ⟨hj,hall⟩;have hfl:=List.length_filter_le Ke.nb (s.take j);rw[List.length_take,Nat.min_eq_left hj]at hfl;refine yZ (fun hc11 hc11p=>?_) (fun hc11 hc11p=>?_)
 ·have hlt:j<s.length:=by omega
  obtain⟨c,hget⟩:∃c,s[j]?=some c:=⟨_,AA hlt⟩;refine yU 8 ?_;refine J.z (IC AV hget) ?_;refine yU 3 ?_;refine Cj.join (ι:=Bool) (fun y=>(y=true→((48≤(c.toNat:Int)∧(c.toNat:Int)≤57)∨(c.toNat:Int)=88∨(c.toNat:Int)=120))∧(y=false→¬((48≤(c.toNat:Int)∧(c.toNat:Int)≤57)∨(c.toNat:Int)=88∨(c.toNat:Int)=120))) (fun y=>[(0,str s),(4,str ((s.take j).filter Ke.nb)),(5,i64 (j:Int)),(6,u8 c),(31,.bool y)]) (fun y=>I) (fun y=>[]) ?_ (fun hcut=>?_)
  ·rintro y ⟨hy1,hy2⟩;refine DF (fun hc12=>?_) (fun hc12=>?_)
   ·have hcc:=hy1 hc12;have hk:=d1l (c:=c) (by omega);refine yU 4 ?_;intro b13 hb13;refine J.z (OE [c] rfl rfl rfl KE AV tU5 (yX.at 0 rfl) rfl) ?_;refine J.z (BQ rfl rfl rfl (by first|omega|(simp only[List.length_append];omega)|(simp;omega))) ?_;refine yU 4 ?_;have hnx:=a7n hget;rw[hk.2,zF rfl]at hnx;refine yU 5 ?_;refine Ej.keep (Keeps.d Keeps.n) ?_;refine Ej.round (j+1) ⟨by omega,a3l hall hget hk.1⟩ (by omega) ⟨rfl,by rw[hnx];rfl,rfl,trivial⟩ rfl rfl
   have hcc:=hy2 hc12;refine EH (fun hg14=>?_) (fun hg14=>?_)
   ·have h39:=bne_iff_ne.1 hg14;refine yZ (fun hc15 hc15p=>?_) (fun hc15 hc15p=>?_)
    ·have h42:=bne_iff_ne.1 hc15;have hout:=d0r hall hget (d0i (by omega));rw[hout];refine yU 1 ?_;refine Ej.a1C rfl ?_;refine yU 3 ?_;exact hcut () _ _ _ trivial ⟨rfl,trivial⟩ rfl rfl
    have h42:(c.toNat:Int)=45:=by have h:=hc15;rw[bne_eq_false_iff_eq]at h;exact h
    refine yU 3 ?_;have hk:=c7o (c:=c) (by omega);have hnx:=a7n hget;rw[hk.2,zD (by decide),List.append_nil]at hnx;refine yU 5 ?_;refine Ej.round (j+1) ⟨by omega,a3l hall hget hk.1⟩ (by omega) ⟨rfl,by rw[hnx];rfl,rfl,trivial⟩ rfl rfl
   have h39:(c.toNat:Int)=32:=by have h:=hg14;rw[bne_eq_false_iff_eq]at h;exact h
   refine yU 9 ?_;have hk:=c7o (c:=c) (by omega);have hnx:=a7n hget;rw[hk.2,zD (by decide),List.append_nil]at hnx;refine yU 5 ?_;refine Ej.round (j+1) ⟨by omega,a3l hall hget hk.1⟩ (by omega) ⟨rfl,by rw[hnx];rfl,rfl,trivial⟩ rfl rfl
  refine EH (fun hg17=>?_) (fun hg17=>?_)
  ·have h20:=DK hg17;refine EH (fun hg18=>?_) (fun hg18=>?_)
   ·have h24:=DK hg18;refine yU 8 ?_;exact hcut _ _ _ _ ⟨fun h=>by first|omega|(simp at h;omega)|(cases h;done),fun h=>by first|omega|(simp at h;omega)|(cases h;done)⟩ ⟨rfl,rfl,rfl,rfl,rfl,trivial⟩ rfl rfl
   have h24:=DN hg18;refine EH (fun hg19=>?_) (fun hg19=>?_)
   ·have h28:=BP hg19;refine yU 4 ?_;exact hcut _ _ _ _ ⟨fun h=>by first|omega|(simp at h;omega)|(cases h;done),fun h=>by first|omega|(simp at h;omega)|(cases h;done)⟩ ⟨rfl,rfl,rfl,rfl,rfl,trivial⟩ rfl rfl
   have h28:=CB hg19;refine yU 4 ?_;exact hcut _ _ _ _ ⟨fun h=>by first|omega|(simp at h;omega)|(cases h;done),fun h=>by first|omega|(simp at h;omega)|(cases h;done)⟩ ⟨rfl,rfl,rfl,rfl,rfl,trivial⟩ rfl rfl
  have h20:=DN hg17;refine EH (fun hg20=>?_) (fun hg20=>?_)
  ·have h28:=BP hg20;refine yU 4 ?_;exact hcut _ _ _ _ ⟨fun h=>by first|omega|(simp at h;omega)|(cases h;done),fun h=>by first|omega|(simp at h;omega)|(cases h;done)⟩ ⟨rfl,rfl,rfl,rfl,rfl,trivial⟩ rfl rfl
  have h28:=CB hg20;refine yU 4 ?_;exact hcut _ _ _ _ ⟨fun h=>by first|omega|(simp at h;omega)|(cases h;done),fun h=>by first|omega|(simp at h;omega)|(cases h;done)⟩ ⟨rfl,rfl,rfl,rfl,rfl,trivial⟩ rfl rfl
 have hout:=c7J (s:=s) (j:=j) (by omega) hall;rw[hout];refine yU 4 ?_;exact hcut () _ _ _ trivial ⟨rfl,trivial⟩ rfl rfl
end Go.Proofs.YtalapkjmkjmpjaaGreatDoor
end
section
namespace Go.Proofs.YtalapkjmkjmpjaaGreatDoor
open _root_.Go.Proofs.Tryz
open Go Go.Sx
theorem FI.len{I l v}(h:FI I l v):∃p c,v= .slice p l.length c:=let ⟨p,c,h,_⟩:=h;⟨p,c,h⟩
theorem a6A{s x d l}:bK s d (x::l)=(if s<x∧d=false then[s,x]else[x])++bK s (d || decide (s<x)) l:=by
 rw[bK]
 by_cases h:s<x
 ·cases d
  ·rw[zF ⟨h,rfl⟩,zF ⟨h,rfl⟩];simp[h]
  rw[zD sI,zD sI];rfl
 rw[zD (fun g=>h g.1),zD (fun g=>h g.1)];simp[h]
theorem c9Y{l s}{k:Nat}(h:l[k]?=some s):aJ l s=l:=zF (CJ h)
theorem a7R{l:List (List UInt8)}{s x k}(h:s ∉ l.take k)(A:l[k]?=some x)(M:x≠s):s ∉ l.take (k+1):=by
 obtain⟨G,A⟩:=xC.1 A;rw[tN G,A,wB,vN];rintro(e|e)
 ·exact h e
 exact M e.symm
theorem b7B{l s k}(A:¬k<l.length)(h:s ∉ l.take k):aJ l s=bK s false l:=by
 rw[tX oM]at h;exact zD h
theorem c2r{s d}{l:List (List UInt8)}{k}(A:¬k<l.length):bK s d (l.drop k)=if d=true then[]else[s]:=by
 rw[xX oM];cases d<;>rfl
theorem a4Q s:∀(l:List (List UInt8)) (d:Bool),(bK s d l).length≤l.length+1
 |[],true=>sQ _
 |[],false=>tH _
 |x::l,d=>by
  have:=a4Q s l (d || decide (s<x));rw[a6A,wV,wU]
  by_cases h:s<x∧d=false
  ·rw[zF h];obtain⟨h1,rfl⟩:=h;have h2:bK s (false || decide (s<x)) l=l:=by rw[zH h1];exact Ke.a1e s l
   rw[h2];simp;omega
  rw[zD h];simp;omega
theorem b0O l s:(aJ l s).length≤l.length+1:=by
 unfold aJ
 split
 ·omega
 exact a4Q s l false
theorem PZ:∀(xs l:List (List UInt8)),(xs.foldl aJ l).length≤l.length+xs.length
 |[],l=>tH _
 |x::xs,l=>by
  have h1:=PZ xs (aJ l x);have h2:=b0O l x;simp only[List.foldl_cons,wU];omega
theorem a7r xs x:(xs++[x]).foldl aJ []=aJ (xs.foldl aJ []) x:=by rw[xM];rfl
theorem SK f codes (aa:codes.length≤1000)(hn:f.subs.length≤2000000)(ab:CZ f.subs≤3000000) I (hr:zJ XL I f.subs f.sv):Pure aN 155 [.agg (IQ f).toArray,str codes] I (str (aF f codes)):=by
 refine bI ?_;obtain⟨p2,c2,M,a1,a6⟩:=hr;refine zN func155 fun w0 _=>?_;refine yU 3 ?_;intro b1 _;refine yU 15 ?_;refine aY (ι:=Nat×Gs) (fun j=>j.1≤f.subs.length∧AL w0.heap.size 1 (tx codes (f.subs.take j.1)).length ((tx codes (f.subs.take j.1)).map str) j.2) (fun j=>f.subs.length-j.1) (fun j=>[(1,str codes),(2,ptr b1 0),(5,gV (tx codes (f.subs.take j.1)).length j.2),(6,i64 (j.1:Int))]) (fun j=>_) (fun j=>(b1,yV 92 (IQ f))::gH 9 ((tx codes (f.subs.take j.1)).map str) j.2) (0,none) ⟨sQ _,rfl,rfl⟩ rT rfl rfl ?_;rintro⟨j,g⟩ ⟨hj,N⟩;dsimp only at hj N ⊢;have a7:=a4L codes (f.subs.take j);rw[wI,sW hj]at a7;refine yU 6 ?_;refine aH 10 (.slice p2 f.subs.length c2) rfl M ?_;refine yZ ?_ ?_<;>intro a1 a5
 ·refine yU 5 ?_;have a2:j<f.subs.length:=oM;obtain⟨sb,G⟩:∃x,f.subs[j]?=some x:=⟨_,AA a2⟩;obtain⟨a3,O,_,_,_,_,rfl,Q,a4⟩:=a6 (zK a2);have A:=b8r (codes:=codes) G;refine yU 4 ?_;refine aH 17 (.slice (some ⟨a3,O,none⟩) f.subs.length c2) rfl M ?_;refine zW (O+j*2) ?_;refine yU 1 ?_;refine aI (BU rfl rfl tA5 (aK Q) (BO JH a4 G 0 dE)) ?_;refine zO (d0H codes sb.code oM _) ?_;refine DF ?_ ?_<;>intro Z
  ·rw[zF Z]at A;refine yU 4 ?_;refine aH 26 (.slice (some ⟨a3,O,none⟩) f.subs.length c2) rfl M ?_;refine zW (O+j*2) ?_;refine aI (zY (off':=O+j*2+1) a3B BD) ?_;refine aI (BU rfl rfl DU (aK Q) (BO JH a4 G 1 dE)) ?_;refine yU 1 ?_;intro _ _;refine KT 15 [_,_] N ?_;intro g5 a8;refine yU 9 ?_;refine bJ (aS (dN bP)) ?_;refine aC (j+1,g5) ⟨dO,by dsimp only;rw[A,wG,wV];exact a8⟩ dO ⟨rfl,rfl,by dsimp only;rw[A,wV];rfl,rfl,trivial⟩ rfl (by dsimp only;rw[A,wG];rfl)
  rw[zD (fun e=>Bool.noConfusion (e.symm.trans Z))]at A;refine yU 8 ?_;refine aC (j+1,g) ⟨dO,by dsimp only;rw[A,yD];exact N⟩ dO ⟨rfl,rfl,by dsimp only;rw[A,yD];rfl,rfl,trivial⟩ rfl (by dsimp only;rw[A,yD])
 refine yU 6 ?_;have a0:f.subs.take j=f.subs:=tX oM;rw[a0]at N ⊢;have a9:=MF f codes;refine Cj.perm (H':=gH _ _ _++[_]) uQ ?_;refine dH N (fun _ _ hv=>?_);refine zO (a8a (tx codes f.subs) _ (by have:=a4L codes f.subs;omega) (by have e:Ke.join (tx codes f.subs)=aF f codes:=rfl;rw[e];omega) _ (dB hv)) ?_;refine zV ?_;exact rT
theorem b1N fs v rk rl tag (hn:fs.length≤2000000) I (hr:KC I fs v):yY aN 154 [a1A rk rl v,str tag] I []
 (fun e _ H'=>e= .returned (.tuple #[.agg (IQ (aA fs tag)).toArray,.bool (Ke.find fs tag).isSome])∧H'=[]):=by
 obtain⟨⟨p,c,rfl,_,hp⟩,a2⟩:=hr;refine zN func154 fun w0 _=>?_;refine yU 3 ?_;intro b1 _;refine yU 1 ?_;intro b2 _;refine yU 10 ?_;refine aY (ι:=Nat) (fun j=>j≤fs.length∧∀g∈fs.take j,g.tag≠tag) (fun j=>fs.length-j) (fun j=>[(1,str tag),(2,ptr b1 0),(4,ptr b2 0),(6,i64 (j:Int))]) (fun j=>_) (fun j=>[(b2,yV 92 (IQ Ke.zf)),(b1,yV 45 [u8 rk,u8 rl,.slice p fs.length c])]) 0 ⟨sQ _,fun g hg=>by simp at hg⟩ rT rfl rfl ?_;rintro j ⟨_,N⟩;refine yZ ?_ ?_<;>intro a5 a3
 ·refine yU 5 ?_;have Z:j<fs.length:=oM;obtain⟨f,G⟩:∃f,fs[j]?=some f:=⟨_,AA Z⟩;obtain⟨_,fo,_,_,_,sp,rfl,a0,a1⟩:=hp (zK Z);obtain⟨p2,c2,a6,_,_⟩:=a2 f (CJ G);refine zW (fo+j*4) ?_;refine yU 1 ?_;refine aI (BU rfl rfl DU (aK a0) (BO LK a1 G 0 dE)) ?_;refine yZ ?_ ?_<;>intro O a4
  ·have ht:f.tag=tag:=BP O;refine zW (fo+j*4) ?_;refine aI (CX a1t KX (aK a0) (AY LK a1 G)) ?_;refine J.op rfl (DV 0 rfl rfl rfl rfl rfl (PY a6) KX rfl rfl (aO (aO (aO (aO dI)))) dJ ?_);refine yU 9 ?_;have A:=b1a N G ht;have M:aA fs tag=f:=by unfold aA;rw[A];rfl
   rw[M,A];refine Ej.c7l (aS (aS dD)) rfl rfl rfl (yX.at 0 rfl) a1t KX rfl rfl ?_;exact rT
  have a7:f.tag≠tag:=CB O;refine yU 8 ?_;refine aC (j+1) ⟨oM,b1J N G a7⟩ oM rT rfl rfl
 refine yU 7 ?_;refine aI (zL (pl:= #[(0,1),(1,1),(2,1),(3,1)]) rfl rfl a2x rfl a9X (fun w=>by simp[BD,sizeOf90]) GU.none) ?_;refine yU 5 ?_;have Q:fs.take j=fs:=tX oM;rw[Q]at N;have A:=b1h N;have M:aA fs tag=Ke.zf:=by unfold aA;rw[A];rfl
 rw[M,A];refine Ej.c7l (aS (aS dD)) rfl rfl rfl (yX.at 0 rfl) a1t KX rfl rfl ?_;exact rT
theorem b2J{I fs v} tag (h:KC I fs v):zJ XL I (aA fs tag).subs (aA fs tag).sv:=by
 rcases a7t fs tag with e|e
 ·rw[e];exact zJ.nil
 exact h.2 _ e
theorem c3M fs v rk rl (Q:FOK fs) I (Z:KC I fs v):Pure aN 153 [a1A rk rl v] I (str (aP fs)):=by
 refine bI ?_;have a4:=Q.1;have G:=a1p [50,52,53] Q;have aa:=MF (aA fs [50,52,53]) [97,98];obtain⟨p,n,c0,a5⟩:=a3P [50,52,53] Z;have N:=b2J [50,52,53] Z;refine zN func153 fun w0 _=>?_;refine yU 3 ?_;intro _ _;refine zX (b1N fs _ rk rl [50,52,53] a4 _ Z) ?_;intro _ _ _ a0 a6;have N:=N.mono a0;obtain⟨h,rfl⟩:=a6;cases h;refine yU 4 ?_;intro _ _;refine J.op rfl (DV 0 rfl rfl rfl rfl rfl (PY a5) KX rfl rfl (aO (aO (aO (aO dI)))) dJ ?_);refine DZ ?_ ?_<;>intro a7 a1
 ·have a8:1<(aA fs [50,52,53]).ind.length:=oM;obtain⟨c,A⟩:∃c,(aA fs [50,52,53]).ind[1]?=some c:=⟨_,AA a8⟩;have ab:=c.toNat_lt;refine yU 2 ?_;refine bY (FB rfl rfl rfl AV dE A) ?_;refine DZ ?_ ?_<;>intro a9 a2
  ·refine yU 2 ?_;refine bY (FB rfl rfl rfl AV dE A) ?_;refine yZ ?_ ?_<;>intro a3 O
   ·have hd:aB c=true:=bC.2 oM;refine yU 3 ?_;refine aI (FB rfl rfl rfl AV dE A) ?_;refine aI (VG rfl rfl rfl (w8 oM)) ?_;refine yU 1 ?_;refine aH 31 (i64 ((c.toNat-48:Nat):Int)) rfl (zC i64 ((IJ oM).trans oM)) ?_;refine zO (SK (aA fs [50,52,53]) [97,98] dE G.1 G.2.1 _ N) ?_;refine zO (OC (aF (aA fs [50,52,53]) [97,98]) _ oM _) ?_;refine zV ?_;have M:=(a2N A).trans (by rw[zF (by simp[aT,hd])]);unfold aP;rw[M];exact rT
   refine zO (SK (aA fs [50,52,53]) [97,98] dE G.1 G.2.1 _ N) ?_;refine zO (OC (aF (aA fs [50,52,53]) [97,98]) _ oM _) ?_;refine zV ?_;have M:=(a2N A).trans (by rw[zD];intro e;have:=bC.1 (show aB c=true by simpa[aT]using e);omega);unfold aP;rw[M];exact rT
  refine zO (SK (aA fs [50,52,53]) [97,98] dE G.1 G.2.1 _ N) ?_;refine zO (OC (aF (aA fs [50,52,53]) [97,98]) _ oM _) ?_;refine zV ?_;have M:=(a2N A).trans (by rw[zD];intro e;have:=bC.1 (show aB c=true by simpa[aT]using e);omega);unfold aP;rw[M];exact rT
 refine zO (SK (aA fs [50,52,53]) [97,98] dE G.1 G.2.1 _ N) ?_;refine zO (OC (aF (aA fs [50,52,53]) [97,98]) _ oM _) ?_;refine zV ?_;have M:=a6f (f:=(aA fs [50,52,53])) oM;unfold aP;rw[M];exact rT
theorem a9W l v s (hl:l.length≤4300000000000) I (aa:FI I l v):yY aN 152 [v,str s] I [] (fun e I' H'=>∃w,e= .returned w∧FI I' (aJ l s) w∧H'=[]):=by
 have aj:=aa;obtain⟨p,c,rfl,_,hp⟩:=aa;refine zN func152 fun w0 _=>?_;refine yU 22 ?_;refine aY (ι:=Nat×Bool×List (List UInt8)×Gs) (fun y=>y.1≤l.length∧s ∉ l.take y.1∧bK s false l=y.2.2.1++bK s y.2.1 (l.drop y.1)∧y.2.2.1.length≤2*y.1∧AL w0.heap.size 1 y.2.2.1.length (y.2.2.1.map str) y.2.2.2) (fun y=>l.length-y.1) (fun y=>[(0,.slice p l.length c),(1,str s),(5,gV y.2.2.1.length y.2.2.2),(6,.bool y.2.1),(7,i64 (y.1:Int))]) (fun y=>_) (fun y=>gH 9 (y.2.2.1.map str) y.2.2.2) (0,false,[],none) ⟨sQ _,sI,rfl,sQ _,rfl,rfl⟩ rT rfl rfl ?_;rintro⟨k,d,G,g⟩ ⟨hk,N,O,al,hg⟩;dsimp only at hk N O al hg ⊢;refine yZ ?_ ?_<;>intro am ad
 ·refine yU 6 ?_;have ab:k<l.length:=oM;obtain⟨x,A⟩:∃x,l[k]?=some x:=⟨_,AA ab⟩;have a3:=drop_cons A;obtain⟨lb,lo,_,_,_,sp,rfl,Q,Z⟩:=hp (zK ab);refine zW (lo+k) ?_;refine aI (DI DU (aK Q) (GR Z A)) ?_;refine yZ ?_ ?_<;>intro a4 ae
  ·have an:x=s:=BP a4;refine zV ?_;rw[c9Y (an▸A)];exact⟨_,rfl,aj,rfl⟩
  have a5:x≠s:=CB a4;refine zW (lo+k) ?_;refine aI (DI DU (aK Q) (GR Z A)) ?_;refine aI (a0i rfl rfl rfl) ?_;refine EH ?_ ?_<;>intro a6
  ·have a2:s<x:=DK a6;refine DF ?_ ?_<;>intro a7
   ·have ao:d=false:=by have h:=a7;simpa using h
    have M:s<x∧d=false:=⟨a2,ao⟩;refine yU 5 ?_;intro _ _;refine KT 15 [_] hg ?_;intro _ ap;refine zW (lo+k) ?_;refine aI (DI DU (aK Q) (GR Z A)) ?_;refine yU 1 ?_;intro _ _;refine KT 15 [_,_] ap ?_;intro g8 aq;refine yU 9 ?_;refine bJ (aS (aS bP)) ?_;refine aC (k+1,true,G++[s]++[x],g8) ⟨dO,a7R N A a5,by dsimp only;rw[O,a3,a6A,zF M,M.2,zH M.1,yE,yE];rfl,by simp;omega,by dsimp only;rw[wG,wG,wV,wV];exact aq⟩ dO ⟨rfl,rfl,by dsimp only;rw[wV,wV];rfl,rfl,rfl,trivial⟩ rfl (by dsimp only;rw[wG,wG];rfl)
   have ac:d=true:=by have h:=a7;simpa using h
   have M:¬(s<x∧d=false):=fun g=>by rw[ac]at g;cases g.2
   have a8:(d || decide (s<x))=d:=by rw[ac];rfl
   refine zW (lo+k) ?_;refine aI (DI DU (aK Q) (GR Z A)) ?_;refine yU 1 ?_;intro _ _;refine KT 15 [_] hg ?_;intro ar af;refine yU 9 ?_;refine bJ (aS bP) ?_;refine aC (k+1,d,G++[x],ar) ⟨dO,a7R N A a5,by dsimp only;rw[O,a3,a6A,zD M,a8,yE],by simp;omega,by dsimp only;rw[wG,wV];exact af⟩ dO ⟨rfl,rfl,by dsimp only;rw[wV];rfl,rfl,rfl,trivial⟩ rfl (by dsimp only;rw[wG];rfl)
  have a2:¬s<x:=DN a6;have M:¬(s<x∧d=false):=fun g=>a2 g.1;have a8:(d || decide (s<x))=d:=by rw[zI a2,Bool.or_false]
  refine zW (lo+k) ?_;refine aI (DI DU (aK Q) (GR Z A)) ?_;refine yU 1 ?_;intro _ _;refine KT 15 [_] hg ?_;intro au ag;refine yU 9 ?_;refine bJ (aS bP) ?_;refine aC (k+1,d,G++[x],au) ⟨dO,a7R N A a5,by dsimp only;rw[O,a3,a6A,zD M,a8,yE],by simp;omega,by dsimp only;rw[wG,wV];exact ag⟩ dO ⟨rfl,rfl,by dsimp only;rw[wV];rfl,rfl,rfl,trivial⟩ rfl (by dsimp only;rw[wG];rfl)
 refine DF ?_ ?_<;>intro a0
 ·have hd:d=false:=by have h:=a0;simpa using h
  refine yU 4 ?_;intro _ _;refine KT 15 [_] hg ?_;intro a9 ah;refine yU 4 ?_;refine Cj.keep (aS bP) ?_;have a1:aJ l s=G++[s]:=by rw[b7B (k:=k) oM N,O,c2r oM,zD (by rw[hd];decide)]
  refine Cj.perm (H':=gH 9 ((G++[s]).map str) a9++[]) (.of_eq (by rw[yD,wG];rfl)) ?_;refine dH (show AL w0.heap.size 1 (G++[s]).length ((G++[s]).map str) a9 by rw[wG,wV];exact ah) (fun I8 ai hv=>?_);replace hv:IV 9 I8 (aJ l s) (gV (G.length+1) a9):=by rw[a1];rw[wV]at hv;exact hv
  refine zM ?_;exact⟨_,rfl,dB hv,rfl⟩
 have hd:d=true:=by have h:=a0;simpa using h
 refine yU 3 ?_;have a1:aJ l s=G:=by rw[b7B (k:=k) oM N,O,c2r oM,zF hd,yD]
 refine Cj.perm (H':=gH 9 ((G).map str) g++[]) (.of_eq (by rw[yD])) ?_;refine dH hg (fun I8 ai hv=>?_);replace hv:IV 9 I8 (aJ l s) (gV (G.length) g):=by rw[a1];exact hv
 refine zM ?_;exact⟨_,rfl,dB hv,rfl⟩
theorem c9D fs v rk rl (Q:FOK fs) I0 (a5:KC I0 fs v):yY aN 91 [a1A rk rl v] I0 [] (fun e I' H'=>∃w,e= .returned w∧FI I' (cO fs) w∧H'=[]):=by
 have bi:=Q.1;obtain⟨p,c,rfl,_,-⟩:=id a5.1;have bz:=b1F Q;have au:=a1p [49,48,48] Q;have bx:=MF (aA fs [49,48,48]) [97];obtain⟨p1,_,c1,hsv1⟩:=a3P [49,48,48] a5;refine zN func91 fun w0 _=>?_;refine yU 3 ?_;intro b1 _;refine yU 15 ?_;refine aY (ι:=Nat×Heap×Value) (fun y=>y.1≤fs.length∧Le I0 y.2.1∧FI y.2.1 ((IU (fs.take y.1)).foldl aJ []) y.2.2) (fun y=>fs.length-y.1) (fun y=>[(1,ptr b1 0),(3,y.2.2),(4,i64 (y.1:Int))]) (fun y=>y.2.1) (fun y=>[(b1,yV 45 [u8 rk,u8 rl,.slice p fs.length c])]) (0,_,_) ⟨sQ _,Le.refl _,⟨none,0,rfl,tH _,fun h=>absurd rfl h⟩⟩ rT rfl rfl ?_;rintro⟨k,_,w⟩ ⟨hk,G,A⟩;dsimp only at hk G A ⊢;have hr:=a5.mono G;have av:=a3O (l:=fs.take k) fun f hf=>(Q.2 f (vO hf)).1;rw[wI,sW hk]at av;refine yZ ?_ ?_<;>intro aw b4
 ·refine yU 5 ?_;have ax:k<fs.length:=oM;obtain⟨f,a3⟩:∃f,fs[k]?=some f:=⟨_,AA ax⟩;have ay:=b1t a3;have a9:=CJ a3;have hfk:=Q.2 f a9;obtain⟨⟨p1,c1,bj,_,hp⟩,b5⟩:=id hr;cases bj;obtain⟨fb,fo,_,_,_,sp,rfl,bl,bm⟩:=hp (zK ax);obtain⟨p2,c2,a1,aw,_⟩:=b5 f a9;refine zW (fo+k*4) ?_;refine aI (CX a1t KX (aK bl) (AY LK bm a3)) ?_;refine yU 1 ?_;intro b3 _;refine J.op rfl (DV 0 rfl rfl rfl rfl rfl (PY a1) KX rfl rfl (aO (aO (aO (aO dI)))) dJ ?_);refine yU 8 ?_;refine aY (ι:=Nat×Heap×Value) (fun y=>y.1≤f.subs.length∧Le I0 y.2.1∧FI y.2.1 ((IU (fs.take k)++bk (f.subs.take y.1)).foldl aJ []) y.2.2∧(y.1=0∨f.tag=[48,50,48])) (fun y=>f.subs.length-y.1) (fun y=>[(1,ptr b1 0),(3,y.2.2),(4,i64 (k:Int)),(5,ptr b3 0),(6,i64 (y.1:Int))]) (fun y=>y.2.1) (fun y=>[(b3,yV 92 (IQ f)),(b1,yV 45 [u8 rk,u8 rl,.slice (some ⟨fb,fo,none⟩) fs.length c])]) (0,_,_) ⟨sQ _,G,by rw[show bk (f.subs.take 0)=[] from rfl,yD];exact A,.inl rfl⟩ rT rfl rfl ?_;rintro⟨j,_,_⟩ ⟨hj,G,A,aa⟩;dsimp only at hj G A aa ⊢;have hr:=a5.mono G;have bn:=c1y (f.subs.take j);rw[wI,sW hj]at bn;have c4:(IU (fs.take k)++bk (f.subs.take j)).length=(IU (fs.take k)).length+(bk (f.subs.take j)).length:=wV;have ab:=PZ (IU (fs.take k)++bk (f.subs.take j)) [];rw[wL]at ab;refine yU 6 ?_;refine aH 28 (.slice p2 f.subs.length c2) rfl a1 ?_;refine DZ ?_ ?_<;>intro bo b6
  ·refine yZ ?_ ?_<;>intro ac b7
   ·have O:f.tag=[48,50,48]:=BP ac;refine yU 5 ?_;have ad:j<f.subs.length:=oM;obtain⟨x,N⟩:∃x,f.subs[j]?=some x:=⟨_,AA ad⟩;obtain⟨p3,c3,ae,_,bp⟩:=hr.2 f a9;obtain⟨rfl,rfl⟩:p2=p3∧c2=c3:=by rw[a1]at ae;cases ae;exact rT
    obtain⟨az,so,_,_,_,_,rfl,Z,b0⟩:=bp (zK ad);have af:=b7t N;have bq:=b7r (CJ N);have c5:=b2u x.text;refine yU 3 ?_;refine aH 40 (.slice (some ⟨az,so,none⟩) f.subs.length c2) rfl a1 ?_;refine zW (so+j*2) ?_;refine aI (zY (off':=so+j*2+1) a3B BD) ?_;refine aI (BU rfl rfl DU (aK Z) (BO JH b0 N 1 dE)) ?_;refine zO (a7X x.text oM _) ?_;refine EH ?_ ?_<;>intro ag
    ·have hi:(dF x.text).2=true:=ag;refine yU 2 ?_;refine aH 51 (.slice (some ⟨az,so,none⟩) f.subs.length c2) rfl a1 ?_;refine yU 1 ?_;refine bY (FZ (off':=so+j*2) a5N a1G) ?_;refine yU 1 ?_;refine bY (BU rfl rfl tA5 (aK Z) (BO JH b0 N 0 dE)) ?_;refine yZ ?_ ?_<;>intro ah b8
     ·have M:=b1Z hi ah;refine yU 3 ?_;refine aI (BQ rfl rfl rfl (by simp only[wU,wL];omega)) ?_;refine zX (a9W _ _ (Ke.b0E++(dF x.text).1) oM _ A) ?_;intro _ _ _ a0 b9;have G:=G.mono a0;have A:=A.mono a0;have Z:=a0 _ _ Z;obtain⟨wv,h,a2,rfl⟩:=b9;cases h;replace A:=a2;refine yU 9 ?_;refine aC (j+1,_,_) ⟨dO,G,by dsimp only;rw[af,M,bT,←yE,a7r];exact A,.inr O⟩ dO rT rfl rfl
     have M:Ke.book x=none:=a1S (by rw[hi];exact ah);refine yU 8 ?_;refine aC (j+1,_,_) ⟨dO,G,by dsimp only;rw[af,M,bT,yD];exact A,.inr O⟩ dO rT rfl rfl
    have hi:(dF x.text).2=false:=ag;have M:Ke.book x=none:=a1S (by rw[hi];rfl);refine yU 19 ?_;refine aC (j+1,_,_) ⟨dO,G,by dsimp only;rw[af,M,bT,yD];exact A,.inr O⟩ dO rT rfl rfl
   have hnt:f.tag≠[48,50,48]:=CB ac;refine yU 6 ?_;have ba:j=0:=aa.resolve_right hnt;subst ba;have M:IU (fs.take k)++bZ f=IU (fs.take k)++bk (f.subs.take 0):=by unfold bZ;rw[zD hnt];rfl
   refine yU 5 ?_;refine bJ (aS (dN dD)) ?_;refine aC (k+1,_,_) ⟨dO,G,by dsimp only;rw[ay,M];exact A⟩ dO rT rfl rfl
  refine yU 13 ?_;have br:f.subs.take j=f.subs:=tX oM;have M:IU (fs.take k)++bZ f=IU (fs.take k)++bk (f.subs.take j):=by
   rw[br];unfold bZ
   by_cases O:f.tag=[48,50,48]
   ·rw[zF O];rfl
   rw[zD O];have h0:=aa.resolve_right O;have:f.subs=[]:=wR.1 oM;rw[this];rfl
  refine yU 5 ?_;refine bJ (aS (dN dD)) ?_;refine aC (k+1,_,_) ⟨dO,G,by dsimp only;rw[ay,M];exact A⟩ dO rT rfl rfl
 refine yU 6 ?_;have am:fs.take k=fs:=tX oM;rw[am]at A av;have ab:=PZ (IU fs) [];rw[wL]at ab;refine zO (c3M fs _ rk rl Q _ hr) ?_;refine yZ ?_ ?_<;>intro a4 an
 ·have hT:aP fs=[]:=BP a4;have ao:(IU fs).foldl aJ []=cO fs:=by unfold cO Ke.raw Ke.UY;rw[zF hT,yD];rfl
  refine zV ?_;exact⟨_,rfl,ao▸A,rfl⟩
 have hT:aP fs≠[]:=CB a4;have a6:aJ ((IU fs).foldl aJ []) ([116,105,116,108,101,32]++aP fs++[32,47,32]++((aW (aF (aA fs [49,48,48]) [97])).head?.getD []))=cO fs:=by unfold cO Ke.raw Ke.UY;rw[zD hT];exact(a7r _ _).symm
 refine zX (b1N fs _ rk rl [49,48,48] bi _ hr) ?_;intro _ _ _ a7 bb;have hr:=hr.mono a7;have A:=A.mono a7;obtain⟨h,rfl⟩:=bb;cases h;refine yU 4 ?_;intro _ _;refine J.op rfl (DV 0 rfl rfl rfl rfl rfl (PY hsv1) KX rfl rfl (aO (aO (aO (aO dI)))) dJ ?_);refine zO (SK (aA fs [49,48,48]) [97] dE au.1 au.2.1 _ (b2J [49,48,48] hr)) ?_;refine NG (TY (aF (aA fs [49,48,48]) [97]) oM _) ?_;intro _ _ _ ap bc bd;have A:=A.mono ap;obtain⟨_,bt,h,rfl⟩:=bd;cases h;refine J.NV (bt.base bc) (fun _ be hw=>?_);have A:=A.mono be;replace hw:=dB hw;obtain⟨pw,cw,bu,_,bv⟩:=hw;refine aH 74 (.slice pw _ cw) rfl bu ?_;refine yZ ?_ ?_<;>intro bf aq
 ·have b2:0<(aW (aF (aA fs [49,48,48]) [97])).length:=oM;obtain⟨x,ai⟩:∃x,(aW (aF (aA fs [49,48,48]) [97]))[0]?=some x:=⟨_,AA b2⟩;obtain⟨wb,wo,_,_,_,_,rfl,aj,bw⟩:=bv (zK b2);have al:((aW (aF (aA fs [49,48,48]) [97])).head?.getD [])=x:=by rw[b8w ai];rfl
  have bq:=Ke.NY _ x (CJ ai);refine zW wo ?_;refine aI (DI DU (aK aj) (GR (k:=0) bw ai)) ?_;refine yU 7 ?_;refine aI (BQ rfl rfl rfl (by simp only[wU,wL];omega)) ?_;refine aI (BQ rfl rfl rfl (by simp only[wV,wU,wL];omega)) ?_;refine yU 1 ?_;refine aI (BQ rfl rfl rfl (by simp only[wV,wU,wL];omega)) ?_;refine aH 86 (str ([116,105,116,108,101,32]++aP fs++[32,47,32]++((aW (aF (aA fs [49,48,48]) [97])).head?.getD []))) rfl (by rw[al]) ?_;refine zX (a9W _ _ ([116,105,116,108,101,32]++aP fs++[32,47,32]++((aW (aF (aA fs [49,48,48]) [97])).head?.getD [])) oM _ A) ?_;intro _ _ _ a8 bg;have A:=A.mono a8;have aj:=a8 _ _ aj;obtain⟨wv,h,a2,rfl⟩:=bg;cases h;replace A:=a2;refine zV ?_;exact⟨_,rfl,a6▸A,rfl⟩
 refine yU 3 ?_;have al:((aW (aF (aA fs [49,48,48]) [97])).head?.getD [])=[]:=by have h0:aW (aF (aA fs [49,48,48]) [97])=[]:=wR.1 oM;rw[h0];rfl
 refine yU 3 ?_;refine aI (BQ rfl rfl rfl (by simp only[wU,wL];omega)) ?_;refine aI (BQ rfl rfl rfl (by simp only[wV,wU,wL];omega)) ?_;refine yU 1 ?_;refine aI (BQ rfl rfl rfl (by simp only[wV,wU,wL];omega)) ?_;refine aH 86 (str ([116,105,116,108,101,32]++aP fs++[32,47,32]++((aW (aF (aA fs [49,48,48]) [97])).head?.getD []))) rfl (by rw[al]) ?_;refine zX (a9W _ _ ([116,105,116,108,101,32]++aP fs++[32,47,32]++((aW (aF (aA fs [49,48,48]) [97])).head?.getD [])) oM _ A) ?_;intro _ _ _ ar bh;have A:=A.mono ar;obtain⟨wv,h,a2,rfl⟩:=bh;cases h;replace A:=a2;refine zV ?_;exact⟨_,rfl,a6▸A,rfl⟩
end Go.Proofs.YtalapkjmkjmpjaaGreatDoor
end
section
namespace Go.Proofs.YtalapkjmkjmpjaaGreatDoor
open _root_.Go.Proofs.Tryz
open Go Go.Sx
theorem a9I{α:Type}{p}:∀{l:List α} {k:Nat},(∀x∈l.take k,p x=true)→(∀x,l[k]?=some x→p x=false)→k≤l.length→(l.takeWhile p).length=k
 |[],k,_,_,hk=>by
  have:k=0:=by simpa using hk
  subst this;rfl
 |x::r,0,_,h2,_=>by rw[uH,zD (by rw[h2 x rfl];decide)];rfl
 |x::r,k+1,h1,h2,hk=>by
  rw[uH,zF (h1 x (by rw[tV];exact .head _)),wU,a9I (k:=k) (fun y A=>h1 y (by rw[tV];exact .tail _ A)) (fun y A=>h2 y (by rw[List.getElem?_cons_succ];exact A)) (by simpa using hk)]
theorem c1r{α:Type}{p:α→Bool}{l:List α}{k x}(h:∀y∈l.take k,p y=true)(A:l[k]?=some x)(M:p x=true):∀y∈l.take (k+1),p y=true:=by
 obtain⟨G,A⟩:=xC.1 A;rw[tN G,A];intro y N;rcases wB.1 N with g|g
 ·exact h y g
 rw[vN.1 g];exact M
theorem b0m{s k}(h:aU s=aU (s.drop k))(A:((s.drop k).takeWhile aB).length=4):uy s=((s.take (k+4)).drop k,true):=by
 unfold uy;rw[h,Ix.b0T,zF A,List.drop_take];simp
theorem c9C{s k}(h:aU s=aU (s.drop k))(A:s.length≤k):uy s=([],false):=by
 unfold uy;rw[h,xX A,Ix.c6T];rfl
theorem b0d{s k n}(h:aU s=aU (s.drop k))(A:((s.drop k).takeWhile aB).length=n)(G:n≠4):aU s=aU (s.drop (k+n+1)):=by
 rw[h,Ix.b0T,zD oM,A,xY,Nat.add_assoc]
theorem c5p s (hs:s.length≤1000000000) I:Pure aN 302 [str s] I (.tuple #[str (uy s).1,.bool (uy s).2]):=by
 refine bI ?_;refine zN func302 fun w0 _=>?_;refine yU 13 ?_;refine aY (ι:=Nat) (fun k=>k≤s.length+1∧aU s=aU (s.drop k)) (fun k=>s.length+1-k) (fun k=>[(0,str s),(4,i64 (k:Int))]) (fun k=>_) (fun k=>[]) 0 ⟨sQ _,rfl⟩ rT rfl rfl ?_;rintro k ⟨_,A⟩;refine yZ ?_ ?_<;>intro ag a7
 ·refine yU 11 ?_;refine aY (ι:=Nat) (fun n=>k+n≤s.length∧∀x∈(s.drop k).take n,aB x=true) (fun n=>s.length-k-n) (fun n=>[(0,str s),(4,i64 (k:Int)),(5,i64 (n:Int))]) (fun n=>_) (fun n=>[]) 0 ⟨oM,fun x M=>by simp at M⟩ rT rfl rfl ?_;rintro n ⟨_,a0⟩;refine DZ ?_ ?_<;>intro a1 a8
  ·have a9:k+n<s.length:=by have h:=DK a1;omega
   obtain⟨c,G⟩:∃c,s[k+n]?=some c:=⟨_,AA a9⟩;refine yU 4 ?_;refine aH 22 (i64 ((k+n:Nat):Int)) rfl rfl ?_;refine bY (IC AV G) ?_;refine DZ ?_ ?_<;>intro a2 aa
   ·have ai:48≤c.toNat:=by have h:=DK a2;omega
    refine yU 4 ?_;refine aH 30 (i64 ((k+n:Nat):Int)) rfl rfl ?_;refine bY (IC AV G) ?_;refine yZ ?_ ?_<;>intro a3 ab
    ·have ac:aB c=true:=by rw[bU];have h:=DK a3;simp only[zG];omega
     refine yU 9 ?_;refine aC (n+1) ⟨oM,c1r a0 (by rw[xH];exact G) ac⟩ oM rT rfl rfl
    have N:¬aB c=true:=by rw[bU];have h:=DN a3;simp only[zG];omega
    refine yU 7 ?_;have O:((s.drop k).takeWhile aB).length=n:=a9I a0 (fun x M=>by rw[xH,G]at M;cases M;exact yN.2 N) (by rw[wS];omega);refine yZ ?_ ?_<;>intro a4 ad
    ·have Q:n=4:=by have h:=BP a4;omega
     have Z:=b0m A (O.trans Q);refine yU 6 ?_;refine aI (AO (p:=k) (q:=k+4) rfl rfl AV ⟨_,rfl⟩ ⟨_,rfl⟩ oM oM) ?_;refine zM ?_;rw[Z];exact rT
    have Q:n≠4:=by have h:=CB a4;omega
    refine yU 15 ?_;refine aC (k+n+1) ⟨oM,b0d A O oM⟩ oM rT rfl rfl
   have N:¬aB c=true:=by rw[bU];have h:=DN a2;simp only[zG];omega
   refine yU 17 ?_;have O:((s.drop k).takeWhile aB).length=n:=a9I a0 (fun x M=>by rw[xH,G]at M;cases M;exact yN.2 N) (by rw[wS];omega);refine yZ ?_ ?_<;>intro a5 ae
   ·have Q:n=4:=by have h:=BP a5;omega
    have Z:=b0m A (O.trans Q);refine yU 6 ?_;refine aI (AO (p:=k) (q:=k+4) rfl rfl AV ⟨_,rfl⟩ ⟨_,rfl⟩ oM oM) ?_;refine zM ?_;rw[Z];exact rT
   have Q:n≠4:=by have h:=CB a5;omega
   refine yU 15 ?_;refine aC (k+n+1) ⟨oM,b0d A O oM⟩ oM rT rfl rfl
  have ah:¬k+n<s.length:=by have h:=DN a1;omega
  refine yU 25 ?_;have O:((s.drop k).takeWhile aB).length=n:=a9I a0 (fun x M=>absurd (xC.1 M).1 (by rw[wS];omega)) (by rw[wS];omega);refine yZ ?_ ?_<;>intro a6 af
  ·have Q:n=4:=by have h:=BP a6;omega
   have Z:=b0m A (O.trans Q);refine yU 6 ?_;refine aI (AO (p:=k) (q:=k+4) rfl rfl AV ⟨_,rfl⟩ ⟨_,rfl⟩ oM oM) ?_;refine zM ?_;rw[Z];exact rT
  have Q:n≠4:=by have h:=CB a6;omega
  refine yU 15 ?_;refine aC (k+n+1) ⟨oM,b0d A O oM⟩ oM rT rfl rfl
 refine zM ?_;rw[c9C A oM];exact rT
theorem a9A s p (N:p.length≤1000000) I:Pure aN 303 [str s,str p] I (.bool (p.isPrefixOf s)):=by
 refine bI ?_;refine zN func303 fun w0 _=>?_;refine DZ ?_ ?_<;>intro A M
 ·have G:p.length≤s.length:=by have h:=DK A;omega
  refine yU 3 ?_;refine bY (AO (p:=0) (q:=p.length) rfl rfl AV rfl ⟨_,rfl⟩ oM oM) ?_;refine zM ?_;refine⟨?_,rfl⟩;rw[pre_eq G]
 have G:¬p.length≤s.length:=by have h:=DN A;omega
 refine zM ?_;rw[c3l G];exact rT
theorem b7y f:(bQ f).length≤CZ f.subs+f.subs.length:=by
 have:=a0n f []
 rwa [a0x]at this
theorem b6w f (hn:f.subs.length≤2000000)(ab:CZ f.subs≤3000000) I (hr:zJ XL I f.subs f.sv):Pure aN 304 [.agg (IQ f).toArray] I (str (bQ f)):=by
 refine bI ?_;obtain⟨p2,c2,Q,a2,a8⟩:=hr;have a9:=b7y f;unfold bQ at a9;refine zN func304 fun w0 _=>?_;refine yU 3 ?_;intro b1 _;refine yU 15 ?_;refine aY (ι:=Nat) (fun j=>j≤f.subs.length) (fun j=>f.subs.length-j) (fun j=>[(1,ptr b1 0),(3,str (Ke.join ((f.subs.map (·.text)).take j))),(4,i64 (j:Int))]) (fun j=>_) (fun j=>[(b1,yV 92 (IQ f))]) 0 (sQ _) rT rfl rfl ?_;intro j _;have ac:=a1W (f.subs.map (·.text)) j;have aa:=a1W (f.subs.map (·.text)) (j+1);refine yU 6 ?_;refine aH 7 (.slice p2 f.subs.length c2) rfl Q ?_;refine yZ ?_ ?_<;>intro a2 a6
 ·have a3:j<f.subs.length:=oM;obtain⟨sb,M⟩:∃x,f.subs[j]?=some x:=⟨_,AA a3⟩;have N:(f.subs.map (·.text))[j]?=some sb.text:=by rw[xB,M];rfl
  obtain⟨a4,O,_,_,_,_,rfl,Z,a5⟩:=a8 (zK a3);have A:=zC List.length (WY N);rw[wV]at A;refine yZ ?_ ?_<;>intro a0 a7
  ·have G:0<j:=by have h:=DK a0;omega
   refine yU 2 ?_;refine aI (BQ rfl rfl rfl (by rw[zF G,wV]at A;simp only[wU,wL]at A ⊢;omega)) ?_;refine yU 7 ?_;refine aH 18 (.slice (some ⟨a4,O,none⟩) f.subs.length c2) rfl Q ?_;refine zW (O+j*2) ?_;refine aI (zY (off':=O+j*2+1) a3B BD) ?_;refine aI (BU rfl rfl DU (aK Z) (BO JH a5 M 1 dE)) ?_;refine aI (BQ rfl rfl rfl (by first|(rw[zF G,wV]at A;simp only[wV,wU,wL]at A ⊢;omega)|(rw[zD G]at A;omega))) ?_;refine yU 9 ?_;refine aC (j+1) oM oM ⟨rfl,by rw[WY N,zF G];rfl,rfl,trivial⟩ rfl rfl
  have G:¬0<j:=by have h:=DN a0;omega
  refine yU 6 ?_;refine aH 18 (.slice (some ⟨a4,O,none⟩) f.subs.length c2) rfl Q ?_;refine zW (O+j*2) ?_;refine aI (zY (off':=O+j*2+1) a3B BD) ?_;refine aI (BU rfl rfl DU (aK Z) (BO JH a5 M 1 dE)) ?_;refine aI (BQ rfl rfl rfl (by first|(rw[zF G,wV]at A;simp only[wV,wU,wL]at A ⊢;omega)|(rw[zD G]at A;omega))) ?_;refine yU 9 ?_;refine aC (j+1) oM oM ⟨rfl,by rw[WY N,zD G];rfl,rfl,trivial⟩ rfl rfl
 have a1:(f.subs.map (·.text)).take j=f.subs.map (·.text):=tX (by rw[wO];omega);refine zV ?_;rw[a1];exact rT
def ZJ (x:List UInt8×Nat):List Value:=[str x.1,i64 (x.2:Int)]
theorem OO x:(ZJ x).length=2:=rfl
def LC (u:List UInt8→List UInt8×Bool) (c:UInt8) (ss:List Ke.Sub):List (List UInt8×Nat):=(ss.filterMap (RH u c)).map fun s=>(s,0)
theorem b5R{u c}{ss:List Ke.Sub}{k s}(h:ss[k]?=some s):LC u c (ss.take (k+1))=LC u c (ss.take k)++(if (u s.text).2=true∧s.code=c then[((u s.text).1,0)]else[]):=by
 unfold LC;rw[b8b h,wG]
 congr 1
 split<;>rfl
theorem a6h u c ss:(LC u c ss).length≤ss.length:=by
 unfold LC;rw[wO];exact wQ _ _
theorem a2Z{f:dK}{t u c j}(h:j=0∨f.tag=t)(A:f.subs.length≤j):(if f.tag=t then LC u c f.subs else[])=LC u c (f.subs.take j):=by
 by_cases ht:f.tag=t
 ·rw[zF ht,tX A]
 have h0:=h.resolve_right ht;subst h0;rw[zD ht];rfl
theorem a6m{f:dK}{t u c j}(h:j=0∨f.tag=t)(A:f.tag≠t):(if f.tag=t then LC u c f.subs else[])=LC u c (f.subs.take j):=by
 have h0:=h.resolve_right A;subst h0;rw[zD A];rfl
theorem TT{f n}(h:n=dG):bG f n=if f.tag=[50,52,53]∨f.tag=[50,52,54]then[(aF f [97,98],Ix.a3q f)]else[]:=by subst h;rfl
theorem PX{f n}(h:n=cZ):bG f n=if f.tag=[49,48,48]∨f.tag=[49,49,48]∨f.tag=[55,48,48]then[(aF f [97],0)]else[]:=by subst h;rfl
theorem OA{f n}(h:n=bW):bG f n=if f.tag=[54,48,48]∨f.tag=[54,53,48]then[(aF f [97,120],0)]else[]:=by subst h;rfl
theorem WQ{f n}(h:n=dL):bG f n=if f.tag=[48,50,48]then LC dF 97 f.subs else[]:=by subst h;rfl
theorem WT{f n}(h:n=dM):bG f n=if f.tag=[50,54,48]then LC uy 99 f.subs else[]:=by
 subst h;unfold LC;rw[b8a];rfl
theorem RJ{f n}(h:n=Ix.RY):bG f n=if Ix.a4u f then[(bQ f,0)]else[]:=by subst h;rfl
theorem of_none{f n}(h1:n≠dG)(h2:n≠cZ)(h3:n≠bW)(A:n≠dL)(G:n≠dM)(M:n≠Ix.RY):bG f n=[]:=by
 unfold bG;rw[zD h1,zD h2,zD h3,zD A,zD G,zD M]
theorem b8h f n (h:f.subs.length≤1000):(bG f n).length≤1000:=by
 by_cases h1:n=dG
 ·rw[TT h1];split<;>simp
 by_cases h2:n=cZ
 ·rw[PX h2];split<;>simp
 by_cases h3:n=bW
 ·rw[OA h3];split<;>simp
 by_cases h4:n=dL
 ·rw[WQ h4];split
  ·exact FD (a6h _ _ _) h
  simp
 by_cases h5:n=dM
 ·rw[WT h5];split
  ·exact FD (a6h _ _ _) h
  simp
 by_cases h6:n=Ix.RY
 ·rw[RJ h6];split<;>simp
 rw[of_none h1 h2 h3 h4 h5 h6];simp
theorem d0D(f:Ke.FN)(n:List UInt8)(hn2:f.subs.length≤2000000)(htx:CZ f.subs≤3000000)(I:Heap)(hr:zJ XL I f.subs f.sv):yY Tryz.prog 225 [.agg (IQ f).toArray,str n] I [] (fun e I' H'=>∃w,e= .returned w∧zJ ZJ I' (Ix.ofN f n) w∧H'=[]):=by
 obtain⟨p2,c2,hsv,hc2,hp2⟩:=id hr;refine zN func225 fun w0 hw0=>?_;refine yU 3 ?_;intro b1 hb1;refine yU 8 ?_;refine Cj.join (ι:=Heap×Gs) (fun y=>AL w0.heap.size 2 (Ix.ofN f n).length ((Ix.ofN f n).flatMap ZJ) y.2) (fun y=>[(5,gV (Ix.ofN f n).length y.2)]) (fun y=>y.1) (fun y=>(b1,yV 92 (IQ f))::gH 252 ((Ix.ofN f n).flatMap ZJ) y.2) ?_ (fun hcut=>?_)
 ·rintro⟨J9,g⟩ hg;dsimp only at hg ⊢;refine yU 7 ?_;refine Ej.keep (Keeps.d Keeps.r) ?_;refine Ej.perm (H':=gH 252 (List.flatMap ZJ (Ix.ofN f n)) g++[]) (.of_eq (List.append_nil _)) ?_;refine Ej.keepR OO (by decide) hg rfl (fun I8 hle8 hw8=>?_);refine zM ?_;exact⟨_,rfl,hw8,rfl⟩
 refine yZ (fun hc2 hc2p=>?_) (fun hc2 hc2p=>?_)
 ·have hn:n=Ix.MV:=BP hc2;refine yU 5 ?_;refine Cj.join (ι:=Unit) (fun _y=>True) (fun _y=>[(1,str n),(2,ptr b1 0),(5,.slice none 0 0),(6,i64 (Ix.a3q f:Nat))]) (fun _y=>I) (fun _y=>[(b1,yV 92 (IQ f))]) ?_ (fun hcut=>?_)
  ·rintro _ -;refine Cj.join (ι:=Bool) (fun y=>(y=true→f.tag=[50,52,53]∨f.tag=[50,52,54])∧(y=false→¬(f.tag=[50,52,53]∨f.tag=[50,52,54]))) (fun y=>[(1,str n),(2,ptr b1 0),(5,.slice none 0 0),(6,i64 (Ix.a3q f:Nat)),(51,.bool y)]) (fun y=>I) (fun y=>[(b1,yV 92 (IQ f))]) ?_ (fun hcut=>?_)
   ·rintro y ⟨hy1,hy2⟩;refine DF (fun hc3=>?_) (fun hc3=>?_)
    ·have htt:=hy1 hc3;refine zO (SK f [97,98] (by decide) hn2 htx _ hr) ?_;refine J.z zS ?_;refine J.z (zL (pl:= #[(0,1),(1,1)]) rfl rfl LV rfl a0P (fun w=>by simp[AZ,BD]) (GU.part rfl rfl rfl (AX.c AX.z) (GU.part rfl rfl rfl (AX.s (AX.c AX.z)) GU.none))) ?_;refine J.op rfl (CY LG UA LV (DC.agg rfl DC.none) ?_);intro b4 hb4;refine J.op rfl (zT (by':=23) (n:=0) (g:=none) (xs:=[]) [_,_] rfl rfl rfl rfl rfl LG (.inr ⟨_,LG⟩) (by kernel_rfl) UA LV rfl ⟨rfl,rfl⟩ rfl (Src.slice (yX.at 0 rfl) rfl rfl rfl) (by omega) ?_);intro g5 hg5;refine yU 3 ?_;refine Ej.keep (Keeps.d (Keeps.k Keeps.r)) ?_;exact hcut (_,g5) _ _ _ (by rw[show Ix.ofN f n=[(Ke.textOf f [97,98],Ix.a3q f)] from(TT hn).trans (zF htt)];exact hg5) ⟨(by rw[show Ix.ofN f n=[(Ke.textOf f [97,98],Ix.a3q f)] from(TT hn).trans (zF htt)]<;>rfl),trivial⟩ rfl (by rw[show Ix.ofN f n=[(Ke.textOf f [97,98],Ix.a3q f)] from(TT hn).trans (zF htt)]<;>rfl)
    have htt:=hy2 hc3;refine yU 2 ?_;exact hcut (_,none) _ _ _ (by rw[show Ix.ofN f n=[] from(TT hn).trans (zD htt)];exact⟨rfl,rfl⟩) ⟨(by rw[show Ix.ofN f n=[] from(TT hn).trans (zD htt)]<;>rfl),trivial⟩ rfl (by rw[show Ix.ofN f n=[] from(TT hn).trans (zD htt)]<;>rfl)
   refine DZ (fun hg6 hg6p=>?_) (fun hg6 hg6p=>?_)
   ·have h45:f.tag=[50,52,53]:=BP hg6;refine yU 5 ?_;exact hcut _ _ _ _ ⟨fun h=>by simp_all,fun h=>by simp_all⟩ ⟨rfl,rfl,rfl,rfl,rfl,trivial⟩ rfl rfl
   have h45:f.tag≠[50,52,53]:=CB hg6;refine yU 5 ?_;exact hcut _ _ _ _ ⟨fun h=>by simp_all,fun h=>by simp_all⟩ ⟨rfl,rfl,rfl,rfl,rfl,trivial⟩ rfl rfl
  refine DZ (fun hg7 hg7p=>?_) (fun hg7 hg7p=>?_)
  ·have h45:f.tag=[50,52,53]:=BP hg7;refine DZ (fun hg8 hg8p=>?_) (fun hg8 hg8p=>?_)
   ·have hl1:1<f.ind.length:=by have h:=DK hg8;omega
    obtain⟨c,hget⟩:∃c,f.ind[1]?=some c:=⟨_,AA hl1⟩;have hcl:=c.toNat_lt;refine yU 2 ?_;refine J.zg (FB rfl rfl rfl AV (by decide) hget) ?_;refine DZ (fun hg9 hg9p=>?_) (fun hg9 hg9p=>?_)
    ·have h48:48≤c.toNat:=by have h:=DK hg9;omega
     refine yU 2 ?_;refine J.zg (FB rfl rfl rfl AV (by decide) hget) ?_;refine yZ (fun hc10 hc10p=>?_) (fun hc10 hc10p=>?_)
     ·have h57:c.toNat≤57:=by have h:=DK hc10;omega
      have hdg:Ke.digit c=true:=by rw[Ix.a0m];simp only[zG];omega
      refine yU 3 ?_;refine J.z (FB rfl rfl rfl AV (by decide) hget) ?_;refine J.z (VG rfl rfl rfl (w8 (by omega))) ?_;refine yU 1 ?_;refine J.ez 43 (i64 ((c.toNat-48:Nat):Int)) rfl (zC i64 ((IJ (by omega)).trans (by omega))) ?_;refine yU 2 ?_;exact hcut () _ _ _ trivial ⟨rfl,rfl,rfl,(zC (fun n:Nat=>some (i64 (n:Int))) (((zF h45).trans ((WW hget).trans (zF hdg)):Ix.a3q f=c.toNat-48)).symm),trivial⟩ rfl rfl
     have hdg:¬Ke.digit c=true:=by rw[Ix.a0m];have h:=DN hc10;simp only[zG];omega
     refine yU 1 ?_;exact hcut () _ _ _ trivial ⟨rfl,rfl,rfl,(zC (fun n:Nat=>some (i64 (n:Int))) (((zF h45).trans ((WW hget).trans (zD hdg)):Ix.a3q f=0)).symm),trivial⟩ rfl rfl
    have hdg:¬Ke.digit c=true:=by rw[Ix.a0m];have h:=DN hg9;simp only[zG];omega
    refine yU 9 ?_;exact hcut () _ _ _ trivial ⟨rfl,rfl,rfl,(zC (fun n:Nat=>some (i64 (n:Int))) (((zF h45).trans ((WW hget).trans (zD hdg)):Ix.a3q f=0)).symm),trivial⟩ rfl rfl
   have hl1:¬1<f.ind.length:=by have h:=DN hg8;omega
   refine yU 15 ?_;exact hcut () _ _ _ trivial ⟨rfl,rfl,rfl,(zC (fun n:Nat=>some (i64 (n:Int))) (((zF h45).trans (a6f hl1):Ix.a3q f=0)).symm),trivial⟩ rfl rfl
  have h45:f.tag≠[50,52,53]:=CB hg7;refine yU 21 ?_;exact hcut () _ _ _ trivial ⟨rfl,rfl,rfl,(zC (fun n:Nat=>some (i64 (n:Int))) ((zD h45:Ix.a3q f=0)).symm),trivial⟩ rfl rfl
 have nn16:n≠Ix.MV:=CB hc2;refine yZ (fun hc14 hc14p=>?_) (fun hc14 hc14p=>?_)
 ·have hn:n=Ix.PO:=BP hc14;refine Cj.join (ι:=Bool) (fun y=>(y=true→f.tag=[49,48,48]∨f.tag=[49,49,48]∨f.tag=[55,48,48])∧(y=false→¬(f.tag=[49,48,48]∨f.tag=[49,49,48]∨f.tag=[55,48,48]))) (fun y=>[(1,str n),(2,ptr b1 0),(5,.slice none 0 0),(73,.bool y)]) (fun y=>I) (fun y=>[(b1,yV 92 (IQ f))]) ?_ (fun hcut=>?_)
  ·rintro y ⟨hy1,hy2⟩;refine DF (fun hc15=>?_) (fun hc15=>?_)
   ·have htt:=hy1 hc15;refine zO (SK f [97] (by decide) hn2 htx _ hr) ?_;refine J.z (zL (pl:= #[(0,1),(1,1)]) rfl rfl LV rfl a0P (fun w=>by simp[AZ,BD]) (GU.part rfl rfl rfl (AX.c AX.z) GU.none)) ?_;refine J.op rfl (CY LG UA LV (DC.agg rfl DC.none) ?_);intro b16 hb16;refine J.op rfl (zT (by':=23) (n:=0) (g:=none) (xs:=[]) [_,_] rfl rfl rfl rfl rfl LG (.inr ⟨_,LG⟩) (by kernel_rfl) UA LV rfl ⟨rfl,rfl⟩ rfl (Src.slice (yX.at 0 rfl) rfl rfl rfl) (by omega) ?_);intro g17 hg17;refine yU 3 ?_;refine Ej.keep (Keeps.d (Keeps.k Keeps.r)) ?_;exact hcut (_,g17) _ _ _ (by rw[show Ix.ofN f n=[(Ke.textOf f [97],0)] from(PX hn).trans (zF htt)];exact hg17) ⟨(by rw[show Ix.ofN f n=[(Ke.textOf f [97],0)] from(PX hn).trans (zF htt)]<;>rfl),trivial⟩ rfl (by rw[show Ix.ofN f n=[(Ke.textOf f [97],0)] from(PX hn).trans (zF htt)]<;>rfl)
   have htt:=hy2 hc15;refine yU 2 ?_;exact hcut (_,none) _ _ _ (by rw[show Ix.ofN f n=[] from(PX hn).trans (zD htt)];exact⟨rfl,rfl⟩) ⟨(by rw[show Ix.ofN f n=[] from(PX hn).trans (zD htt)]<;>rfl),trivial⟩ rfl (by rw[show Ix.ofN f n=[] from(PX hn).trans (zD htt)]<;>rfl)
  refine DZ (fun hg18 hg18p=>?_) (fun hg18 hg18p=>?_)
  ·have h100:f.tag=[49,48,48]:=BP hg18;refine yU 10 ?_;exact hcut _ _ _ _ ⟨fun h=>by simp_all,fun h=>by simp_all⟩ ⟨rfl,rfl,rfl,rfl,trivial⟩ rfl rfl
  have h100:f.tag≠[49,48,48]:=CB hg18;refine DZ (fun hg19 hg19p=>?_) (fun hg19 hg19p=>?_)
  ·have h110:f.tag=[49,49,48]:=BP hg19;refine yU 5 ?_;exact hcut _ _ _ _ ⟨fun h=>by simp_all,fun h=>by simp_all⟩ ⟨rfl,rfl,rfl,rfl,trivial⟩ rfl rfl
  have h110:f.tag≠[49,49,48]:=CB hg19;refine yU 5 ?_;exact hcut _ _ _ _ ⟨fun h=>by simp_all,fun h=>by simp_all⟩ ⟨rfl,rfl,rfl,rfl,trivial⟩ rfl rfl
 have nn59:n≠Ix.PO:=CB hc14;refine yZ (fun hc20 hc20p=>?_) (fun hc20 hc20p=>?_)
 ·have hn:n=Ix.NC:=BP hc20;refine Cj.join (ι:=Bool) (fun y=>(y=true→f.tag=[54,48,48]∨f.tag=[54,53,48])∧(y=false→¬(f.tag=[54,48,48]∨f.tag=[54,53,48]))) (fun y=>[(1,str n),(2,ptr b1 0),(5,.slice none 0 0),(89,.bool y)]) (fun y=>I) (fun y=>[(b1,yV 92 (IQ f))]) ?_ (fun hcut=>?_)
  ·rintro y ⟨hy1,hy2⟩;refine DF (fun hc21=>?_) (fun hc21=>?_)
   ·have htt:=hy1 hc21;refine zO (SK f [97,120] (by decide) hn2 htx _ hr) ?_;refine J.z (zL (pl:= #[(0,1),(1,1)]) rfl rfl LV rfl a0P (fun w=>by simp[AZ,BD]) (GU.part rfl rfl rfl (AX.c AX.z) GU.none)) ?_;refine J.op rfl (CY LG UA LV (DC.agg rfl DC.none) ?_);intro b22 hb22;refine J.op rfl (zT (by':=23) (n:=0) (g:=none) (xs:=[]) [_,_] rfl rfl rfl rfl rfl LG (.inr ⟨_,LG⟩) (by kernel_rfl) UA LV rfl ⟨rfl,rfl⟩ rfl (Src.slice (yX.at 0 rfl) rfl rfl rfl) (by omega) ?_);intro g23 hg23;refine yU 3 ?_;refine Ej.keep (Keeps.d (Keeps.k Keeps.r)) ?_;exact hcut (_,g23) _ _ _ (by rw[show Ix.ofN f n=[(Ke.textOf f [97,120],0)] from(OA hn).trans (zF htt)];exact hg23) ⟨(by rw[show Ix.ofN f n=[(Ke.textOf f [97,120],0)] from(OA hn).trans (zF htt)]<;>rfl),trivial⟩ rfl (by rw[show Ix.ofN f n=[(Ke.textOf f [97,120],0)] from(OA hn).trans (zF htt)]<;>rfl)
   have htt:=hy2 hc21;refine yU 2 ?_;exact hcut (_,none) _ _ _ (by rw[show Ix.ofN f n=[] from(OA hn).trans (zD htt)];exact⟨rfl,rfl⟩) ⟨(by rw[show Ix.ofN f n=[] from(OA hn).trans (zD htt)]<;>rfl),trivial⟩ rfl (by rw[show Ix.ofN f n=[] from(OA hn).trans (zD htt)]<;>rfl)
  refine DZ (fun hg24 hg24p=>?_) (fun hg24 hg24p=>?_)
  ·have h600:f.tag=[54,48,48]:=BP hg24;refine yU 5 ?_;exact hcut _ _ _ _ ⟨fun h=>by simp_all,fun h=>by simp_all⟩ ⟨rfl,rfl,rfl,rfl,trivial⟩ rfl rfl
  have h600:f.tag≠[54,48,48]:=CB hg24;refine yU 5 ?_;exact hcut _ _ _ _ ⟨fun h=>by simp_all,fun h=>by simp_all⟩ ⟨rfl,rfl,rfl,rfl,trivial⟩ rfl rfl
 have nn80:n≠Ix.NC:=CB hc20;refine yZ (fun hc25 hc25p=>?_) (fun hc25 hc25p=>?_)
 ·have hn:n=Ix.QH:=BP hc25;refine yU 6 ?_;refine Cj.loop (ι:=Nat×Gs) (fun y=>y.1≤f.subs.length∧(y.1=0∨f.tag=[48,50,48])∧AL w0.heap.size 2 (LC Ke.WC 97 (f.subs.take y.1)).length ((LC Ke.WC 97 (f.subs.take y.1)).flatMap ZJ) y.2) (fun y=>f.subs.length-y.1) (fun y=>[(1,str n),(2,ptr b1 0),(5,gV (LC Ke.WC 97 (f.subs.take y.1)).length y.2),(7,i64 (y.1:Int))]) (fun y=>_) (fun y=>(b1,yV 92 (IQ f))::gH 252 ((LC Ke.WC 97 (f.subs.take y.1)).flatMap ZJ) y.2) (0,none) ⟨Nat.zero_le _,.inl rfl,rfl,rfl⟩ ⟨rfl,rfl,rfl,rfl,trivial⟩ rfl rfl ?_;rintro⟨j,g⟩ ⟨hj,hj0,hg⟩;dsimp only at hj hj0 hg ⊢;have hpl:=a6h Ke.WC 97 (f.subs.take j);rw[List.length_take,Nat.min_eq_left hj]at hpl;refine yU 6 ?_;refine J.ez 100 (.slice p2 f.subs.length c2) rfl hsv ?_;refine DZ (fun hg26 hg26p=>?_) (fun hg26 hg26p=>?_)
  ·have hlt:j<f.subs.length:=by omega
   obtain⟨sb,hsget⟩:∃x,f.subs[j]?=some x:=⟨_,AA hlt⟩;obtain⟨sbk,so,scs,sty,sfr,sp2,rfl,hsbk,hsd⟩:=hp2 (zK hlt);have hxl:=a7E (CJ hsget);have hnx:=b5R (u:=Ke.WC) (c:=97) hsget;refine yZ (fun hc27 hc27p=>?_) (fun hc27 hc27p=>?_)
   ·have htg:f.tag=[48,50,48]:=BP hc27;refine yU 8 ?_;refine J.ez 112 (.slice (some ⟨sbk,so,none⟩) f.subs.length c2) rfl hsv ?_;refine zW (so+j*2) ?_;refine J.z (zY (off':=so+j*2+1) a3B BD) ?_;refine J.z (BU rfl rfl DU (yX.YR hsbk) (BO JH hsd hsget 1 (by decide))) ?_;refine zO (a7X sb.text (by omega) _) ?_;refine EH (fun hg28=>?_) (fun hg28=>?_)
    ·have hok:(Ke.WC sb.text).2=true:=hg28;refine yU 2 ?_;refine J.ez 123 (.slice (some ⟨sbk,so,none⟩) f.subs.length c2) rfl hsv ?_;refine yU 1 ?_;refine J.zg (FZ (off':=so+j*2) a5N a1G) ?_;refine yU 1 ?_;refine J.zg (BU rfl rfl tA5 (yX.YR hsbk) (BO JH hsd hsget 0 (by decide))) ?_;refine yZ (fun hc29 hc29p=>?_) (fun hc29 hc29p=>?_)
     ·have hcd:sb.code=97:=UInt8.toNat_inj.1 (by have h:=BP hc29;show sb.code.toNat=97;omega);rw[zF ⟨hok,hcd⟩]at hnx;refine Cj.region (J.z zS ?_);refine J.z zS ?_;refine J.z (zL (pl:= #[(0,1),(1,1)]) rfl rfl LV rfl a0P (fun w=>by simp[AZ,BD]) (GU.part rfl rfl rfl (AX.c AX.z) GU.none)) ?_;refine J.op rfl (CY LG UA LV (DC.agg rfl DC.none) ?_);intro b30 hb30;refine J.op rfl (zT (by':=23) [_,_] rfl rfl rfl rfl rfl LG (.inr ⟨_,LG⟩) (by kernel_rfl) UA LV rfl hg rfl (Src.slice (yX.at 0 rfl) rfl rfl rfl) (by omega) ?_);intro g31 hg31;refine yU 9 ?_;refine Ej.keep (Keeps.d (Keeps.k Keeps.r)) ?_;refine Ej.round (j+1,g31) ⟨by dsimp only;omega,.inr htg,by dsimp only;rw[hnx,List.length_append,List.flatMap_append];exact hg31⟩ (by dsimp only;omega) ⟨rfl,rfl,by dsimp only;rw[hnx,List.length_append];rfl,rfl,trivial⟩ rfl (by dsimp only;rw[hnx,List.flatMap_append];rfl)
     rw[zD (fun g=>CB hc29 (by rw[g.2];rfl))]at hnx;refine yU 8 ?_;refine Ej.round (j+1,g) ⟨by dsimp only;omega,.inr htg,by dsimp only;rw[hnx,List.append_nil];exact hg⟩ (by dsimp only;omega) ⟨rfl,rfl,by dsimp only;rw[hnx,List.append_nil];rfl,rfl,trivial⟩ rfl (by dsimp only;rw[hnx,List.append_nil])
    rw[zD (fun g=>Bool.noConfusion (g.1.symm.trans hg28))]at hnx;refine yU 19 ?_;refine Ej.round (j+1,g) ⟨by dsimp only;omega,.inr htg,by dsimp only;rw[hnx,List.append_nil];exact hg⟩ (by dsimp only;omega) ⟨rfl,rfl,by dsimp only;rw[hnx,List.append_nil];rfl,rfl,trivial⟩ rfl (by dsimp only;rw[hnx,List.append_nil])
   have htn:f.tag≠[48,50,48]:=CB hc27;refine yU 5 ?_;exact hcut (_,g) _ _ _ (by rw[show Ix.ofN f n=LC Ke.WC 97 (f.subs.take j) from(WQ hn).trans (a6m hj0 htn)];exact hg) ⟨(by rw[show Ix.ofN f n=LC Ke.WC 97 (f.subs.take j) from(WQ hn).trans (a6m hj0 htn)]<;>rfl),trivial⟩ rfl (by rw[show Ix.ofN f n=LC Ke.WC 97 (f.subs.take j) from(WQ hn).trans (a6m hj0 htn)]<;>rfl)
  refine yU 12 ?_;exact hcut (_,g) _ _ _ (by rw[show Ix.ofN f n=LC Ke.WC 97 (f.subs.take j) from(WQ hn).trans (a2Z hj0 (by omega))];exact hg) ⟨(by rw[show Ix.ofN f n=LC Ke.WC 97 (f.subs.take j) from(WQ hn).trans (a2Z hj0 (by omega))]<;>rfl),trivial⟩ rfl (by rw[show Ix.ofN f n=LC Ke.WC 97 (f.subs.take j) from(WQ hn).trans (a2Z hj0 (by omega))]<;>rfl)
 have nn96:n≠Ix.QH:=CB hc25;refine yZ (fun hc34 hc34p=>?_) (fun hc34 hc34p=>?_)
 ·have hn:n=Ix.a2a:=BP hc34;refine yU 6 ?_;refine Cj.loop (ι:=Nat×Gs) (fun y=>y.1≤f.subs.length∧(y.1=0∨f.tag=[50,54,48])∧AL w0.heap.size 2 (LC uy 99 (f.subs.take y.1)).length ((LC uy 99 (f.subs.take y.1)).flatMap ZJ) y.2) (fun y=>f.subs.length-y.1) (fun y=>[(1,str n),(2,ptr b1 0),(5,gV (LC uy 99 (f.subs.take y.1)).length y.2),(10,i64 (y.1:Int))]) (fun y=>_) (fun y=>(b1,yV 92 (IQ f))::gH 252 ((LC uy 99 (f.subs.take y.1)).flatMap ZJ) y.2) (0,none) ⟨Nat.zero_le _,.inl rfl,rfl,rfl⟩ ⟨rfl,rfl,rfl,rfl,trivial⟩ rfl rfl ?_;rintro⟨j,g⟩ ⟨hj,hj0,hg⟩;dsimp only at hj hj0 hg ⊢;have hpl:=a6h uy 99 (f.subs.take j);rw[List.length_take,Nat.min_eq_left hj]at hpl;refine yU 6 ?_;refine J.ez 139 (.slice p2 f.subs.length c2) rfl hsv ?_;refine DZ (fun hg35 hg35p=>?_) (fun hg35 hg35p=>?_)
  ·have hlt:j<f.subs.length:=by omega
   obtain⟨sb,hsget⟩:∃x,f.subs[j]?=some x:=⟨_,AA hlt⟩;obtain⟨sbk,so,scs,sty,sfr,sp2,rfl,hsbk,hsd⟩:=hp2 (zK hlt);have hxl:=a7E (CJ hsget);have hnx:=b5R (u:=uy) (c:=99) hsget;refine yZ (fun hc36 hc36p=>?_) (fun hc36 hc36p=>?_)
   ·have htg:f.tag=[50,54,48]:=BP hc36;refine yU 8 ?_;refine J.ez 151 (.slice (some ⟨sbk,so,none⟩) f.subs.length c2) rfl hsv ?_;refine zW (so+j*2) ?_;refine J.z (zY (off':=so+j*2+1) a3B BD) ?_;refine J.z (BU rfl rfl DU (yX.YR hsbk) (BO JH hsd hsget 1 (by decide))) ?_;refine zO (c5p sb.text (by omega) _) ?_;refine EH (fun hg37=>?_) (fun hg37=>?_)
    ·have hok:(uy sb.text).2=true:=hg37;refine yU 2 ?_;refine J.ez 162 (.slice (some ⟨sbk,so,none⟩) f.subs.length c2) rfl hsv ?_;refine yU 1 ?_;refine J.zg (FZ (off':=so+j*2) a5N a1G) ?_;refine yU 1 ?_;refine J.zg (BU rfl rfl tA5 (yX.YR hsbk) (BO JH hsd hsget 0 (by decide))) ?_;refine yZ (fun hc38 hc38p=>?_) (fun hc38 hc38p=>?_)
     ·have hcd:sb.code=99:=UInt8.toNat_inj.1 (by have h:=BP hc38;show sb.code.toNat=99;omega);rw[zF ⟨hok,hcd⟩]at hnx;refine Cj.region (J.z zS ?_);refine J.z zS ?_;refine J.z (zL (pl:= #[(0,1),(1,1)]) rfl rfl LV rfl a0P (fun w=>by simp[AZ,BD]) (GU.part rfl rfl rfl (AX.c AX.z) GU.none)) ?_;refine J.op rfl (CY LG UA LV (DC.agg rfl DC.none) ?_);intro b39 hb39;refine J.op rfl (zT (by':=23) [_,_] rfl rfl rfl rfl rfl LG (.inr ⟨_,LG⟩) (by kernel_rfl) UA LV rfl hg rfl (Src.slice (yX.at 0 rfl) rfl rfl rfl) (by omega) ?_);intro g40 hg40;refine yU 9 ?_;refine Ej.keep (Keeps.d (Keeps.k Keeps.r)) ?_;refine Ej.round (j+1,g40) ⟨by dsimp only;omega,.inr htg,by dsimp only;rw[hnx,List.length_append,List.flatMap_append];exact hg40⟩ (by dsimp only;omega) ⟨rfl,rfl,by dsimp only;rw[hnx,List.length_append];rfl,rfl,trivial⟩ rfl (by dsimp only;rw[hnx,List.flatMap_append];rfl)
     rw[zD (fun g=>CB hc38 (by rw[g.2];rfl))]at hnx;refine yU 8 ?_;refine Ej.round (j+1,g) ⟨by dsimp only;omega,.inr htg,by dsimp only;rw[hnx,List.append_nil];exact hg⟩ (by dsimp only;omega) ⟨rfl,rfl,by dsimp only;rw[hnx,List.append_nil];rfl,rfl,trivial⟩ rfl (by dsimp only;rw[hnx,List.append_nil])
    rw[zD (fun g=>Bool.noConfusion (g.1.symm.trans hg37))]at hnx;refine yU 19 ?_;refine Ej.round (j+1,g) ⟨by dsimp only;omega,.inr htg,by dsimp only;rw[hnx,List.append_nil];exact hg⟩ (by dsimp only;omega) ⟨rfl,rfl,by dsimp only;rw[hnx,List.append_nil];rfl,rfl,trivial⟩ rfl (by dsimp only;rw[hnx,List.append_nil])
   have htn:f.tag≠[50,54,48]:=CB hc36;refine yU 5 ?_;exact hcut (_,g) _ _ _ (by rw[show Ix.ofN f n=LC uy 99 (f.subs.take j) from(WT hn).trans (a6m hj0 htn)];exact hg) ⟨(by rw[show Ix.ofN f n=LC uy 99 (f.subs.take j) from(WT hn).trans (a6m hj0 htn)]<;>rfl),trivial⟩ rfl (by rw[show Ix.ofN f n=LC uy 99 (f.subs.take j) from(WT hn).trans (a6m hj0 htn)]<;>rfl)
  refine yU 12 ?_;exact hcut (_,g) _ _ _ (by rw[show Ix.ofN f n=LC uy 99 (f.subs.take j) from(WT hn).trans (a2Z hj0 (by omega))];exact hg) ⟨(by rw[show Ix.ofN f n=LC uy 99 (f.subs.take j) from(WT hn).trans (a2Z hj0 (by omega))]<;>rfl),trivial⟩ rfl (by rw[show Ix.ofN f n=LC uy 99 (f.subs.take j) from(WT hn).trans (a2Z hj0 (by omega))]<;>rfl)
 have nn135:n≠Ix.a2a:=CB hc34;refine yZ (fun hc43 hc43p=>?_) (fun hc43 hc43p=>?_)
 ·have hn:n=Ix.RY:=BP hc43;refine zO (a9A f.tag [48,48] (by decide) _) ?_;refine zO (a9A f.tag [57] (by decide) _) ?_;refine EH (fun hg44=>?_) (fun hg44=>?_)
  ·have h00:([48,48]:List UInt8).isPrefixOf f.tag=false:=by have h:=hg44;simpa using h
   refine DF (fun hc45=>?_) (fun hc45=>?_)
   ·have hany:Ix.a4u f=true:=by have h:=hc45;unfold Ix.a4u;rw[h00,h];rfl
    refine zO (b6w f hn2 htx _ hr) ?_;refine J.z (zL (pl:= #[(0,1),(1,1)]) rfl rfl LV rfl a0P (fun w=>by simp[AZ,BD]) (GU.part rfl rfl rfl (AX.c AX.z) GU.none)) ?_;refine J.op rfl (CY LG UA LV (DC.agg rfl DC.none) ?_);intro b46 hb46;refine J.op rfl (zT (by':=23) (n:=0) (g:=none) (xs:=[]) [_,_] rfl rfl rfl rfl rfl LG (.inr ⟨_,LG⟩) (by kernel_rfl) UA LV rfl ⟨rfl,rfl⟩ rfl (Src.slice (yX.at 0 rfl) rfl rfl rfl) (by omega) ?_);intro g47 hg47;refine yU 3 ?_;refine Ej.keep (Keeps.d (Keeps.k Keeps.r)) ?_;exact hcut (_,g47) _ _ _ (by rw[show Ix.ofN f n=[(Ix.a2Q f,0)] from(RJ hn).trans (zF hany)];exact hg47) ⟨(by rw[show Ix.ofN f n=[(Ix.a2Q f,0)] from(RJ hn).trans (zF hany)]<;>rfl),trivial⟩ rfl (by rw[show Ix.ofN f n=[(Ix.a2Q f,0)] from(RJ hn).trans (zF hany)]<;>rfl)
   have hany:¬Ix.a4u f=true:=by have h:=hc45;unfold Ix.a4u;rw[h00,h];simp
   refine yU 2 ?_;exact hcut (_,none) _ _ _ (by rw[show Ix.ofN f n=[] from(RJ hn).trans (zD hany)];exact⟨rfl,rfl⟩) ⟨(by rw[show Ix.ofN f n=[] from(RJ hn).trans (zD hany)]<;>rfl),trivial⟩ rfl (by rw[show Ix.ofN f n=[] from(RJ hn).trans (zD hany)]<;>rfl)
  have hany:¬Ix.a4u f=true:=by have h:=hg44;unfold Ix.a4u;simp only[Bool.not_eq_false']at h;rw[h];simp
  refine yU 8 ?_;exact hcut (_,none) _ _ _ (by rw[show Ix.ofN f n=[] from(RJ hn).trans (zD hany)];exact⟨rfl,rfl⟩) ⟨(by rw[show Ix.ofN f n=[] from(RJ hn).trans (zD hany)]<;>rfl),trivial⟩ rfl (by rw[show Ix.ofN f n=[] from(RJ hn).trans (zD hany)]<;>rfl)
 have hn:n≠Ix.RY:=CB hc43;refine yU 2 ?_;exact hcut (_,none) _ _ _ (by rw[show Ix.ofN f n=[] from of_none nn16 nn59 nn80 nn96 nn135 hn];exact⟨rfl,rfl⟩) ⟨(by rw[show Ix.ofN f n=[] from of_none nn16 nn59 nn80 nn96 nn135 hn]<;>rfl),trivial⟩ rfl (by rw[show Ix.ofN f n=[] from of_none nn16 nn59 nn80 nn96 nn135 hn]<;>rfl)
theorem b9N{fs:List dK}{j f} n (h:fs[j]?=some f):aQ (fs.take (j+1)) n=aQ (fs.take j) n++bG f n:=by
 obtain⟨A,G⟩:=xC.1 h;rw[tN A,G];unfold aQ;rw[xP];simp
theorem RX n:∀(fs:List dK),(∀f∈fs,f.subs.length≤1000)→(aQ fs n).length≤fs.length*1000
 |[],_=>by simp[aQ]
 |f::r,h=>by
  have h1:=RX n r fun x A=>h x (.tail _ A);have h2:=b8h f n (h f (.head _));unfold aQ at h1 ⊢;rw[xO,wV,wU,Nat.add_mul];omega
theorem a0Q fs v rk rl n (M:RI fs) I (a1:KC I fs v):yY aN 149 [a1A rk rl v,str n] I [] (fun e I' H'=>∃w,e= .returned w∧zJ ZJ I' (aQ fs n) w∧H'=[]):=by
 have ag:=M.1;obtain⟨p,c,rfl,_,-⟩:=id a1.1;refine zN func149 fun w0 _=>?_;refine yU 3 ?_;intro b1 _;refine yU 15 ?_;refine aY (ι:=Nat×Heap×Gs) (fun y=>y.1≤fs.length∧Le I y.2.1∧AL w0.heap.size 2 (aQ (fs.take y.1) n).length ((aQ (fs.take y.1) n).flatMap ZJ) y.2.2) (fun y=>fs.length-y.1) (fun y=>[(1,str n),(2,ptr b1 0),(5,gV (aQ (fs.take y.1) n).length y.2.2),(6,i64 (y.1:Int))]) (fun y=>y.2.1) (fun y=>(b1,yV 45 [u8 rk,u8 rl,.slice p fs.length c])::gH 252 ((aQ (fs.take y.1) n).flatMap ZJ) y.2.2) (0,_,none) ⟨sQ _,Le.refl _,rfl,rfl⟩ rT rfl rfl ?_;rintro⟨j,_,g⟩ ⟨hj,G,Z⟩;dsimp only at hj G Z ⊢;have hr:=a1.mono G;have a8:=RX n (fs.take j) fun f hf=>(M.2 f (vO hf)).1;rw[wI,sW hj]at a8;refine yZ ?_ ?_<;>intro a2 a6
 ·refine yU 4 ?_;have a3:j<fs.length:=oM;obtain⟨f,A⟩:∃f,fs[j]?=some f:=⟨_,AA a3⟩;have a4:=M.2 f (CJ A);have N:=b9N n A;have af:=b8h f n a4.1;obtain⟨⟨p1,c1,a9,_,hp⟩,a7⟩:=id hr;cases a9;obtain⟨_,fo,_,_,_,sp,rfl,O,aa⟩:=hp (zK a3);have a5:=a7 f (CJ A);obtain⟨p2,c2,_,a2,_⟩:=id a5;refine zW (fo+j*4) ?_;refine aI (CX a1t KX (aK O) (AY LK aa A)) ?_;refine zX (d0D f n oM a4.2.1 _ a5) ?_;intro _ _ _ Q ab;have G:=G.mono Q;have O:=Q _ _ O;obtain⟨_,h,ac,rfl⟩:=ab;cases h;refine J.op rfl (zT (by':=23) [_] rfl rfl rfl rfl rfl LG (.inr ⟨_,LG⟩) kR UA LV rfl Z rfl (Src.row OO ac (fun x _=>rfl)) oM ?_);intro g8 ad;refine yU 9 ?_;refine aC (j+1,_,g8) ⟨dO,G,by dsimp only;rw[N,wV,xP];exact ad⟩ dO ⟨rfl,rfl,by dsimp only;rw[N,wV];rfl,rfl,trivial⟩ rfl (by dsimp only;rw[N,xP];rfl)
 refine yU 12 ?_;refine bJ (aS bP) ?_;have a0:fs.take j=fs:=tX oM;rw[a0]at Z ⊢;refine Ej.perm (H':=gH 252 ((aQ fs n).flatMap ZJ) g++[]) (.of_eq (yD _)) ?_;refine Ej.keepR OO dE Z rfl (fun _ _ ae=>?_);refine zM ?_;exact⟨_,rfl,ae,rfl⟩
