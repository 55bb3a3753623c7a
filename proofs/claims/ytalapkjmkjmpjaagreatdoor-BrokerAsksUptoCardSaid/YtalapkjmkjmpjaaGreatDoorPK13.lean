/-
  Own texts on the laws of the seat, joined: the logic, and contracts of functions. Conditions: none.
-/
import Derived.Test.YtalapkjmkjmpjaaGreatDoorNmK
import Derived.Test.YtalapkjmkjmpjaaGreatDoorPK12
set_option linter.all false
set_option maxRecDepth 100000
set_option maxHeartbeats 40000000
open Go.Utf8 renaming encode -> aA,decode -> aI,valid -> bH
open Go.Proofs.Tryz renaming prog -> aB
open Go.Lib renaming indexAny -> aC,decodeL -> aW,indexByte -> bD,contains_iff_indexByte -> bF,trimLeftS -> bG,encodeRune -> bK,idxOfS -> bZ,NoAny -> dD,validRune -> dF,mapD_step -> dG
open Bool renaming noConfusion -> aF,or_eq_true -> bY
open Go.Proofs.YtalapkjmkjmpjaaGreatDoor.Fv renaming f -> aG
open Go.Sx.Enters renaming of -> aH
open Go.Sx.yX renaming RU -> aJ,YR -> cO
open List renaming isPrefixOf -> aK,head?_drop -> bC,takeWhile_sublist -> bI,length -> bU,tail_cons -> dA,drop_one -> dH,contains -> dI
open Go.Sx.Ej renaming round -> aN,persist -> bQ
open Go.Sx.JA renaming zt -> aO,tkG -> aS,ez -> bM,split -> bV,fix -> dJ
open Go.Sx.Pure renaming of_same -> aP,of_below -> bT
open Go.Sx.Cj renaming EX -> aQ,loop -> aU,cond -> aX
open Eq renaming trans -> aT,symm -> aY
open ByteArray renaming getElem_eq_getElem_data -> aV,data -> dB
open Go.Sx.yY renaming toPure -> aZ
open Bk renaming a1y -> bJ,VB -> cZ
open Go.Sx.J renaming op -> bP
open Go.Sx.BL renaming z -> bW
open Go.Value renaming slice -> dK
section
namespace Go.Proofs.YtalapkjmkjmpjaaGreatDoor
open _root_.Go.Proofs.Tryz
open Go Go.Sx
theorem a9g{cs sp:List Value}{o}{l:List Fv}(h:cs.drop o=l.flatMap CV++sp){k x}(A:l[k]?=some x):(cs.drop (o+k*4)).take 2=[i64 x.f.t.1,i64 x.f.t.2]:=by
 have h1:=AY CQ h A;have h2:=zC (List.take 2) h1;rw[List.take_take]at h2;exact h2
theorem d0z{a b:Bk.Fd}(h1:a.t=b.t)(h2:a.k=b.k)(h3:a.p=b.p):a=b:=by
 cases a;cases b;simp only at h1 h2 h3;subst h1 h2 h3;rfl
theorem b3r{a b:List Fv}{j:Nat}{x y}(G:a[j]?=some x)(M:b[j]?=some y)(A:x.f≠y.f):decide (a.map aG=b.map aG)=false:=zI fun e=>A (by
 have h1:=zC (fun l:List Bk.Fd=>l[j]?) e;simp only[xB,G,M,sN]at h1;exact sK h1)
theorem c5C{a b:List Fv}{j x y}(h:(a.take j).map aG=(b.take j).map aG)(A:a[j]?=some x)(G:b[j]?=some y)(M:x.f=y.f):(a.take (j+1)).map aG=(b.take (j+1)).map aG:=by rw[KR aG A,KR aG G,h,M]
theorem b5a{a b:List Int}{j x y}(h:a.take j=b.take j)(A:a[j]?=some x)(G:b[j]?=some y)(M:x=y):a.take (j+1)=b.take (j+1):=by rw[uF,uF,A,G,h,M]
structure TR where
  i:Nat
  j:Nat
  J:Heap
  ls:List Fv
  g:Gs
abbrev ltV (p q:Fv):Bool:=Bk.KO p.f q.f
structure TI where
  k:Nat
  m:List Fv
theorem c0J xs {f}(h:f∈bJ xs):f.p.length≤Bk.OI xs:=by
 obtain⟨id,g,h1,rfl⟩:=(Bk.b4j xs f).1 h;have h2:=Bk.a6z xs h1;have h3:=XD g.p [];show(Bk.QG g.p).length≤_;unfold Bk.QG;rw[wL]at h3;omega
theorem b4M x:∀l:List Bk.Fd,(Bk.a0I l x).length≤l.length+1
 |[]=>tH _
 |y::r=>by
  have:=b4M x r;unfold Bk.a0I
  split<;>simp only[wU]<;>omega
theorem b4p xs:(bJ xs).length≤xs.length:=
 Bk.ND (P:=fun xs=>(bJ xs).length≤xs.length) (tH _) (fun xs x _=>by rw[Bk.a1T,wV];have:=b4M x (bJ xs);simp only[wU,wL];omega) xs
theorem a3Q a b va vb (b9:a.length≤1000000000) I (ha:zJ CV I a va)(hb:zJ CV I b vb)(ap:∀z∈a,RG I z∧z.f.p.length≤1000000000)(aq:∀z∈b,RG I z):Pure aB 9 [va,vb] I (.bool (decide (a.map aG=b.map aG))):=by
 refine aZ ?_;obtain⟨p1,c1,rfl,a4,ar⟩:=ha;obtain⟨p2,c2,rfl,ac,au⟩:=hb;refine zN func9 fun w0 _=>?_;refine yZ ?_ ?_<;>intro a4 ag
 ·have av:a.length≠b.length:=by have h:=bne_iff_ne.1 a4;omega
  refine zM ?_;rw[zI (fun e=>av (by have:=zC bU e;rwa [wO,wO]at this))];exact rT
 have b8:a.length=b.length:=by have h:=EC a4;omega
 refine yU 9 ?_;refine aU (ι:=Nat) (fun j=>j≤a.length∧(a.take j).map aG=(b.take j).map aG) (fun j=>a.length-j) (fun j=>[(0,.slice p1 a.length c1),(1,.slice p2 b.length c2),(5,i64 (j:Int))]) (fun j=>_) (fun j=>[]) 0 ⟨sQ _,rfl⟩ rT rfl rfl ?_;rintro j ⟨_,a1⟩;refine yZ ?_ ?_<;>intro ac ah
 ·have ad:j<a.length:=oM;obtain⟨x,N⟩:∃x,a[j]?=some x:=⟨_,AA ad⟩;obtain⟨y,O⟩:∃y,b[j]?=some y:=⟨_,AA oM⟩;obtain⟨fa,Q,_,_,_,_,rfl,Z,a0⟩:=ar (zK ad);obtain⟨fb,ob,DJ,_,_,_,rfl,a5,a6⟩:=au (zK (oM:j<b.length));have a8:=ap x (CJ N);have aw:=aq y (CJ O);refine yU 6 ?_;refine aQ [] [] 39 kR ?_;refine zW (Q+j*4) ?_;refine yU 1 ?_;refine aO 4 rfl (CX (vs:=[i64 x.f.t.1,i64 x.f.t.2]) FY BM (aJ Z) (a9g a0 N)) ?_;refine zW (ob+j*4) ?_;refine yU 1 ?_;refine aO 9 rfl (CX (vs:=[i64 y.f.t.1,i64 y.f.t.2]) FY BM (aJ a5) (a9g a6 O)) ?_;refine aO 10 rfl (b8u (kv:=a7S) (a:=x.f.t) (b:=y.f.t) rfl rfl rfl rfl rfl a6u kR) ?_;refine yU 1 ?_;refine bV 29 rfl (fun G=>?_) (fun G=>?_)
  ·have ai:=bne_iff_ne.1 G;have a2:x.f≠y.f:=fun e=>bne_iff_ne.1 G (zC Bk.Fd.t e);refine zM ?_;rw[b3r N O (fun e=>a2 e)];exact rT
  have ai:=EC G;refine yU 2 ?_;refine dJ CP (fun A=>?_);refine aS 14 11 29 false _ rfl A rfl rfl G (FZ (off':=Q+j*4) JY FH) ?_;refine aS 15 11 29 false _ rfl A rfl rfl G (zY (off':=Q+j*4+2) IB BD) ?_;refine aS 16 11 29 false _ rfl A rfl rfl G (BU rfl rfl DU (aJ Z) ((BO CQ a0 N 2 dE).trans rfl)) ?_;refine yU 2 ?_;refine dJ CP (fun A=>?_);refine aS 19 11 29 false _ rfl A rfl rfl G (FZ (off':=ob+j*4) JY FH) ?_;refine aS 20 11 29 false _ rfl A rfl rfl G (zY (off':=ob+j*4+2) IB BD) ?_;refine aS 21 11 29 false _ rfl A rfl rfl G (BU rfl rfl DU (aJ a5) ((BO CQ a6 O 2 dE).trans rfl)) ?_;refine yU 3 ?_;refine bV 42 rfl (fun M=>?_) (fun M=>?_)
  ·have aj:=bne_iff_ne.1 M;have a2:x.f≠y.f:=fun e=>bne_iff_ne.1 M (zC Bk.Fd.k e);refine zM ?_;rw[b3r N O (fun e=>a2 e)];exact rT
  have aj:=EC M;refine yU 2 ?_;refine dJ CP (fun A=>?_);refine aS 27 24 42 false _ rfl A rfl rfl M (FZ (off':=Q+j*4) JY FH) ?_;refine aS 28 24 42 false _ rfl A rfl rfl M (zY (off':=Q+j*4+3) IB KD) ?_;refine aS 29 24 42 false _ rfl A rfl rfl M (BU rfl rfl a0A (aJ Z) ((BO CQ a0 N 3 dE).trans rfl)) ?_;refine yU 3 ?_;refine dJ CP (fun A=>?_);refine aS 33 24 42 false _ rfl A rfl rfl M (FZ (off':=ob+j*4) JY FH) ?_;refine aS 34 24 42 false _ rfl A rfl rfl M (zY (off':=ob+j*4+3) IB KD) ?_;refine aS 35 24 42 false _ rfl A rfl rfl M (BU rfl rfl a0A (aJ a5) ((BO CQ a6 O 3 dE).trans rfl)) ?_;refine yZ ?_ ?_<;>intro a7 al
  ·refine zM ?_;rw[b3r N O (fun e=>bne_iff_ne.1 a7 (by rw[e]))];exact rT
  refine yU 3 ?_;obtain⟨a8,_⟩:=a8;have ax:x.f.t=y.f.t:=EC G;have ay:x.f.k=y.f.k:=EC M;have ba:x.f.p.length=y.f.p.length:=by have h:=EC a7;omega
  refine yU 5 ?_;refine aU (ι:=Nat) (fun i=>i≤x.f.p.length∧x.f.p.take i=y.f.p.take i) (fun i=>x.f.p.length-i) (fun i=>[(0,.slice (some ⟨fa,Q,none⟩) a.length c1),(1,.slice (some ⟨fb,ob,none⟩) b.length c2),(5,i64 (j:Int)),(6,i64 (i:Int))]) (fun i=>_) (fun i=>[]) 0 ⟨sQ _,rfl⟩ rT rfl rfl ?_;rintro i ⟨_,ae⟩;refine zW (Q+j*4) ?_;refine J.z (zY (off':=Q+j*4+3) IB KD) ?_;refine J.z (BU rfl rfl a0A (cO Z) ((BO CQ a0 N 3 dE).trans rfl)) ?_;refine yZ ?_ ?_<;>intro af am
  ·have a9:i<x.f.p.length:=oM;obtain⟨n,hn⟩:∃n,x.f.p[i]?=some n:=⟨_,AA a9⟩;obtain⟨m,hm⟩:∃m,y.f.p[i]?=some m:=⟨_,AA oM⟩;obtain⟨_,_,an,a7,az⟩:=id a8;cases an;obtain⟨xb,xo,_,_,_,_,b0,b1,b2⟩:=az (zK a9);obtain⟨_,_,ao,af,b3⟩:=id aw;cases ao;obtain⟨yb,yo,_,_,_,_,b4,b5,b6⟩:=b3 (zK (oM:i<y.f.p.length));refine yU 5 ?_;refine aQ [] [] 17 kR ?_;refine zW (Q+j*4) ?_;refine aO 3 rfl (zY (off':=Q+j*4+3) IB KD) ?_;refine aO 4 rfl (BU rfl rfl a0A (aJ Z) ((BO CQ a0 N 3 dE).trans rfl)) ?_;refine bM 71 (.slice (some ⟨xb,xo,none⟩) x.f.p.length x.c) rfl (by show dK x.a _ _=_;rw[b0]) ?_;refine zW (xo+i) ?_;refine aO 7 rfl (DI GZ (aJ b1) (UG b2 hn)) ?_;refine zW (ob+j*4) ?_;refine aO 11 rfl (zY (off':=ob+j*4+3) IB KD) ?_;refine aO 12 rfl (BU rfl rfl a0A (aJ a5) ((BO CQ a6 O 3 dE).trans rfl)) ?_;refine bM 79 (.slice (some ⟨yb,yo,none⟩) y.f.p.length y.c) rfl (by show dK y.a _ _=_;rw[b4]) ?_;refine zW (yo+i) ?_;refine aO 15 rfl (DI GZ (aJ b5) (UG b6 hm)) ?_;refine yZ ?_ ?_<;>intro a3 ab
   ·have aa:n≠m:=bne_iff_ne.1 a3;refine zM ?_;rw[b3r N O (fun e=>aa (by have h1:=zC (fun f:Bk.Fd=>f.p[i]?) e;simp only[hn,hm]at h1;exact sK h1))];exact rT
   have aa:n=m:=EC a3;refine yU 8 ?_;refine aN (i+1) ⟨oM,b5a ae hn hm aa⟩ oM rT rfl rfl
  have b7:x.f=y.f:=d0z ax ay (by rwa [tX (oM:x.f.p.length≤i),tX (oM:y.f.p.length≤i)]at ae);refine yU 11 ?_;refine aN (j+1) ⟨oM,c5C a1 N O b7⟩ oM rT rfl rfl
 refine zM ?_;rw[tX (oM:a.length≤j),tX (oM:b.length≤j)]at a1;rw[zH a1];exact rT
theorem a0T a b va vb (ab:a.length≤1000000000) I (ha:zJ EP I a va)(hb:zJ EP I b vb):Pure aB 10 [va,vb] I (.bool (decide (a=b))):=by
 refine aZ ?_;obtain⟨p1,c1,rfl,G,a3⟩:=ha;obtain⟨p2,c2,rfl,Q,a4⟩:=hb;refine zN func10 fun w0 _=>?_;refine yZ ?_ ?_<;>intro G a0
 ·have a5:a.length≠b.length:=by have h:=bne_iff_ne.1 G;omega
  refine zM ?_;rw[zI (fun e=>a5 (by rw[e]))];exact rT
 have aa:a.length=b.length:=by have h:=EC G;omega
 refine yU 9 ?_;refine aU (ι:=Nat) (fun j=>j≤a.length∧a.take j=b.take j) (fun j=>a.length-j) (fun j=>[(0,.slice p1 a.length c1),(1,.slice p2 b.length c2),(5,i64 (j:Int))]) (fun j=>_) (fun j=>[]) 0 ⟨sQ _,rfl⟩ rT rfl rfl ?_;rintro j ⟨_,A⟩;refine yZ ?_ ?_<;>intro Q a1
 ·have Z:j<a.length:=oM;obtain⟨x,O⟩:∃x,a[j]?=some x:=⟨_,AA Z⟩;obtain⟨y,hy⟩:∃y,b[j]?=some y:=⟨_,AA oM⟩;obtain⟨_,oa,_,_,_,_,rfl,a6,a7⟩:=a3 (zK Z);obtain⟨_,ob,DJ,_,_,_,rfl,a8,a9⟩:=a4 (zK (oM:j<b.length));refine yU 5 ?_;refine aQ [] [] 9 kR ?_;refine zW (oa+j) ?_;refine aO 3 rfl (DI UR (aJ a6) (UG a7 O)) ?_;refine zW (ob+j) ?_;refine aO 7 rfl (DI UR (aJ a8) (UG a9 hy)) ?_;refine yZ ?_ ?_<;>intro M a2
  ·have N:x≠y:=bne_iff_ne.1 M;refine zM ?_;rw[zI (fun e=>N (by rw[e,hy]at O;exact(sK O).symm))];exact rT
  have N:x=y:=EC M;refine yU 8 ?_;refine aN (j+1) ⟨oM,b5a A O hy N⟩ oM rT rfl rfl
 refine zM ?_;rw[tX (oM:a.length≤j),tX (oM:b.length≤j)]at A;rw[zH A];exact rT
theorem b8Q L v (ay:(flt aG L).length≤1000000000)(az:Bk.OI (flt aG L)≤1000000000)(bl:L.length≤1000000000) I (N:LsS I L v):yY aB 24 [v] I []
 (fun e I' H'=>∃(r:List Fv) (w:Value),e= .returned w∧zJ CV I' r w∧(∀z∈r,RG I' z)∧Bk.NZ (flt aG L) (r.map aG)∧H'=[]):=by
 obtain⟨pL,cL,rfl,_,-⟩:=id N.1;refine zN func24 fun w0 _=>?_;refine yU 17 ?_;refine aU (ι:=TR) (fun y=>y.i≤L.length∧LsS y.J L (.slice pL L.length cL)∧y.ls.map aG=bJ (flt aG (L.take y.i))∧(∀z∈y.ls,RG y.J z)∧AL 0 4 y.ls.length (y.ls.flatMap CV) y.g) (fun y=>L.length-y.i) (fun y=>[(0,.slice pL L.length cL),(3,gV y.ls.length y.g),(4,i64 (y.i:Int))]) (fun y=>y.J) (fun y=>gH 52 (y.ls.flatMap CV) y.g) ⟨0,0,_,[],none⟩ ⟨sQ _,N,rfl,fun _ h=>(by cases h),rfl,rfl⟩ rT rfl rfl ?_;rintro⟨i,_,_,ls,g⟩ ⟨hi,N,hm,G,hg⟩;dsimp only at hi N hm G hg ⊢;refine yZ ?_ ?_<;>intro b0 ao
 ·have ag:i<L.length:=oM;obtain⟨⟨M,ra,rc⟩,O⟩:∃r,L[i]?=some r:=⟨_,AA ag⟩;obtain⟨_,_,b1,ah,hp⟩:=id N.1;cases b1;obtain⟨fb,fo,b2,b3,b4,_,rfl,Z,ai⟩:=hp (zK ag);have hr:=N.2 _ (CJ O);have bj:M.length≤_:=b0n aG O;refine yU 10 ?_;refine Cj.keep Keeps.r ?_;refine aU (ι:=TR) (fun y=>y.j≤M.length∧LsS y.J L (.slice (some ⟨fb,fo,none⟩) L.length cL)∧a0K y.J ⟨M,ra,rc⟩∧y.J fb=some (.cells b2.toArray b3 b4)∧y.ls.map aG=bJ (flt aG (L.take i)++(M.take y.j).map aG)∧(∀z∈y.ls,RG y.J z)∧AL 0 4 y.ls.length (y.ls.flatMap CV) y.g) (fun y=>M.length-y.j) (fun y=>[(0,.slice (some ⟨fb,fo,none⟩) L.length cL),(3,gV y.ls.length y.g),(4,i64 (i:Int)),(5,i64 (y.j:Int))]) (fun y=>y.J) (fun y=>gH 52 (y.ls.flatMap CV) y.g) ⟨i,0,_,ls,g⟩ ⟨sQ _,N,hr,Z,by dsimp only;rw[List.take_zero,wC,yD];exact hm,G,hg⟩ rT rfl rfl ?_;rintro⟨_,j,_,ls,g⟩ ⟨hj,N,hr,Z,hm,G,hg⟩;dsimp only at hj N hr Z hm G hg ⊢;refine yU 2 ?_;obtain⟨p7,c7,a3,b5,-⟩:=id hr.1;cases a3;refine zW (fo+i) ?_;refine J.z (DI isAgg30 (cO Z) (a1g ai O)) ?_;refine J.ez 20 (.slice ra M.length rc) rfl rfl ?_;refine yZ ?_ ?_<;>intro b6 ap
  ·have aa:j<M.length:=oM;obtain⟨x,a7⟩:∃x,M[j]?=some x:=⟨_,AA aa⟩;obtain⟨p7,c7,a3,b5,ab⟩:=id hr.1;cases a3;obtain⟨rb,ro,rcs,_,_,_,rfl,ac,b7⟩:=ab (zK aa);have b8:RG _ x:=(hr.2 x (CJ a7)).1;obtain⟨_,a8⟩:=b1K aG O a7;have b9:Bk.OI ((flt aG (L.take i)++(M.take j).map aG)++[x.f])≤1000000000:=by
    have h9:=az;rw[a8,cZ]at h9;dsimp only at h9;omega
   have aq:=b9;rw[cZ,Bk.a7M]at aq;have ba:((flt aG (L.take i)++(M.take j).map aG)++[x.f]).length≤1000000000:=by
    have h9:=ay;rw[a8,wV]at h9;dsimp only at h9;omega
   rw[wV]at ba;have aj:ls.length≤1000000000:=by
    have h9:=b4p (flt aG (L.take i)++(M.take j).map aG);rw[←hm,wO]at h9;omega
   have hB:∀z∈ls,z.f.p.length≤1000000000:=fun z hz=>by
    have h9:=c0J (flt aG (L.take i)++(M.take j).map aG) (f:=z.f) (hm▸vT hz);omega
   refine zW (fo+i) ?_;refine J.z (DI isAgg30 (cO Z) (a1g ai O)) ?_;refine J.ez 29 (.slice (some ⟨rb,ro,none⟩) M.length rc) rfl rfl ?_;refine zW (ro+j*4) ?_;refine J.z (CX XV FH (cO ac) (AY CQ b7 a7)) ?_;refine RS [] (c9h ls g hg x aj hB oM _ G b8) ?_;intro _ _ _ Q ab;have N:=N.mono Q;have hr:=hr.mono Q;have Z:=Q _ _ Z;have ac:=Q _ _ ac;obtain⟨bb,g2,bc,ar,bd,h,rfl⟩:=ab;cases h;refine yU 9 ?_;refine aN ⟨i,j+1,_,bb,g2⟩ ⟨dO,N,hr,Z,by dsimp only;rw[KR aG a7,←yE,Bk.a1T,←hm];exact bc,ar,bd⟩ dO rT rfl rfl
  refine yU 11 ?_;refine aN ⟨i+1,0,_,ls,g⟩ ⟨dO,N,by dsimp only;rw[a1q aG O,hm,tX (oM:M.length≤j)],G,hg⟩ dO rT rfl rfl
 refine yU 8 ?_;rw[tX (oM:L.length≤i)]at hm;refine J.a6e rfl (fun au=>?_);rcases g with _|⟨gb,gc,al⟩
 ·obtain⟨be,-⟩:=hg;obtain rfl:=wR.1 be;refine yU 4 ?_;refine Cj.rounds 1 ?_;refine Rj.succ ?_;refine yU 9 ?_;refine aX rfl (fun am=>aF (aT (aY (by first|rfl|decide)) am)) (fun am=>?_);refine zM ?_;exact⟨[],_,rfl,zJ.nil,fun _ h=>(by cases h),Bk.b0g (by rw[←hm]) List.Pairwise.nil,rfl⟩
 obtain⟨-,_,bf⟩:=id hg;have bg:=au _ (.head _);rw[BZ CQ]at bf;have aj:ls.length≤1000000000:=by
  have h9:=b4p (flt aG L);rw[←hm,wO]at h9;omega
 refine yU 4 ?_;refine aU (ι:=TI) (fun y=>1≤y.k∧y.m.length=ls.length∧y.m.Perm ls∧Bk.XT ltV y.k y.m) (fun y=>ls.length-y.k) (fun y=>[(3,.slice (some ⟨gb,0,none⟩) ls.length gc),(6,i64 (y.k:Int))]) (fun y=>_) (fun y=>[(gb,yV 52 (y.m.flatMap CV++al))]) ⟨1,ls⟩ ⟨tH _,rfl,.refl _,Bk.XT.one⟩ rT rfl rfl ?_;rintro⟨k,m⟩ ⟨hk,ad,a9,ae⟩;dsimp only at hk ad a9 ae ⊢;refine yZ ?_ ?_<;>intro ah av
 ·refine yU 11 ?_;refine aU (ι:=TI) (fun y=>y.m.length=ls.length∧y.m.Perm ls∧Bk.ZL ltV k y.k y.m) (fun y=>y.k) (fun y=>[(3,.slice (some ⟨gb,0,none⟩) ls.length gc),(6,i64 (k:Int)),(7,i64 (y.k:Int))]) (fun y=>_) (fun y=>[(gb,yV 52 (y.m.flatMap CV++al))]) ⟨k,m⟩ ⟨ad,a9,Bk.ZL.start ae (by show k<m.length;omega)⟩ rT rfl rfl ?_;rintro⟨j,m2⟩ ⟨a0,a1,a2⟩;dsimp only at a0 a1 a2 ⊢;have bm:=a2.len;refine yZ ?_ ?_<;>intro aw af
  ·obtain⟨A,rfl⟩:∃A,j=A+1:=⟨j-1,oM⟩;obtain⟨x,hx⟩:∃x,m2[A+1]?=some x:=⟨_,AA oM⟩;obtain⟨y,hy⟩:∃y,m2[A]?=some y:=⟨_,AA oM⟩;refine yU 5 ?_;refine aQ [0] [] 11 kR ?_;refine zW ((A+1)*4) ?_;refine aO 3 rfl (CX XV FH (yX.NI 0 rfl) (YL CQ hx)) ?_;refine yU 3 ?_;refine bM 51 (i64 ((A:Nat):Int)) rfl (zC i64 oM) ?_;refine zW (A*4) ?_;refine aO 8 rfl (CX XV FH (yX.NI 0 rfl) (YL CQ hy)) ?_;refine zO (b9P x y _) ?_;refine DF ?_ ?_<;>intro a4
   ·have a5:Bk.KO x.f y.f=false:=by have h:=a4;simpa using h
    have a6:Bk.XT ltV (k+1) m2:=a2.stop (fun p q=>Bk.b7S p.f q.f) (fun p q r=>Bk.b7m p.f q.f r.f) hx hy a5;refine yU 2 ?_;refine Ej.a1C rfl ?_;refine yU 10 ?_;refine aN ⟨k+1,m2⟩ ⟨dO,a0,a1,a6⟩ dO rT rfl rfl
   have a5:Bk.KO x.f y.f=true:=by have h:=a4;simpa using h
   have an:=a2.swap hx hy a5;refine zW ((A+1)*4) ?_;refine J.z (CX XV FH (yX.at 0 rfl) (YL CQ hx)) ?_;refine yU 1 ?_;intro _ _;refine yU 10 ?_;refine J.ez 65 (i64 ((A:Nat):Int)) rfl (zC i64 oM) ?_;refine zW (A*4) ?_;refine J.z (CX XV FH (yX.at 1 rfl) (YL CQ hy)) ?_;refine zW ((A+1)*4) ?_;refine bP rfl (DV 1 rfl rfl rfl rfl rfl rfl FH rfl rfl (a6o CQ (x:=y) (l:=m2) (i:=A+1) oM) (BL.s bW) ?_);refine yU 6 ?_;refine J.ez 71 (i64 ((A:Nat):Int)) rfl (zC i64 oM) ?_;refine zW (A*4) ?_;refine bP rfl (DV 1 rfl rfl rfl rfl rfl rfl FH rfl rfl (a6o CQ (x:=x) (l:=m2.set (A+1) y) (i:=A) (by rw[List.length_set];omega)) (BL.s bW) ?_);refine yU 6 ?_;refine J.ez 44 (i64 ((A:Nat):Int)) rfl (zC i64 oM) ?_;refine yU 2 ?_;refine Ej.keep (Keeps.d (Keeps.k Keeps.n)) ?_;refine aN ⟨A,Bk.swapAt A x y m2⟩ ⟨by dsimp only;rw[Bk.c5v];exact a0,an.2.trans a1,an.1⟩ dO rT rfl rfl
  obtain rfl:j=0:=oM;have a6:Bk.XT ltV (k+1) m2:=a2.d1q (fun p q=>Bk.b7S p.f q.f);refine yU 11 ?_;refine aN ⟨k+1,m2⟩ ⟨dO,a0,a1,a6⟩ dO rT rfl rfl
 refine yU 12 ?_;refine bQ bg (fun _ Q ax=>?_);have G:=fun x9 bh=>(G x9 bh).mono Q;refine zM ?_;have bi:=ae.all oM;exact⟨m,_,rfl,by rw[←ad];exact zJ.of oM ax,fun z hz=>G z (a9.mem_iff.1 hz),Bk.b0g (by rw[←hm];exact a9.map aG) (by rw[uV];exact bi),rfl⟩
end Go.Proofs.YtalapkjmkjmpjaaGreatDoor
end
namespace Cq
def blank (c:UInt8):Bool:=(c.toNat:Int) == 32 || (c.toNat:Int) == 9 || (c.toNat:Int) == 10 || (c.toNat:Int) == 13
def plain (c:UInt8):Bool:= !blank c && (c.toNat:Int) != 40 && (c.toNat:Int) != 41 && (c.toNat:Int) != 34 && (c.toNat:Int) != 61 && (c.toNat:Int) != 60 && (c.toNat:Int) != 62
def quoted:List UInt8→Option (List UInt8×Nat)
 |[]=>none
 |c::r=>
  if c=34 then some ([],1)
  else if c=92 then
   match r with
   |[]=>none
   |d::r'=>(quoted r').map fun p=>(d::p.1,p.2+2)
  else(quoted r).map fun p=>(c::p.1,p.2+1)
structure Tok where
  kind:Nat
  text:List UInt8
  pos:Nat
deriving DecidableEq
def head (rest:List UInt8) (j:Nat):Tok×Nat:=
 match rest with
 |[]=>(⟨0,[],j⟩,0)
 |c::r=>
  if c=34 then
   match quoted r with
   |some (t,n)=>(⟨2,t,j⟩,n+1)
   |none=>(⟨4,[],j⟩,r.length+1)
  else if c=61∧r.head?=some 61 then(⟨1,[61,61],j⟩,2)
  else if c=62∧r.head?=some 61 then(⟨1,[62,61],j⟩,2)
  else if c=62 then(⟨4,[],j⟩,0)
  else if plain c then(⟨3,(c::r).takeWhile plain,j⟩,((c::r).takeWhile plain).length)
  else(⟨1,[c],j⟩,1)
def skip (s:List UInt8) (i:Nat):Nat:=i+((s.drop i).takeWhile blank).length
def lex (s:List UInt8) (i:Nat):Tok×Nat:=let r:=head (s.drop (skip s i)) (skip s i);(r.1,skip s i+r.2)
def over (t:Tok):Bool:=t.kind == 0 || t.kind == 4
def toks (s:List UInt8):Nat→Nat→List Tok
 |0,_=>[]
 |f+1,i=>if over (lex s i).1 then[(lex s i).1]else(lex s i).1::toks s f (lex s i).2
def tokens (s:List UInt8):List Tok:=toks s (s.length+1) 0
def low (c:UInt8):UInt8:=if 65≤c.toNat∧c.toNat≤90 then c+32 else c
def small (s:List UInt8):List UInt8:=s.map low
def indexes:List (List UInt8):=[[116,105,116,108,101],[97,117,116,104,111,114],[115,117,98,106,101,99,116],[105,115,98,110],[97,110,121],[121,101,97,114]]
def relations:List (List UInt8):=[[61],[61,61],[60],[62,61],[97,110,121],[97,108,108]]
def operator (t:Tok):Nat:=
 if t.kind≠3 then 0
 else if small t.text=[97,110,100]then 2 else if small t.text=[111,114]then 3 else if small t.text=[110,111,116]then 4 else 0
def relation (t:Tok):Bool:=relations.contains (small t.text) && (t.kind == 3 || t.kind == 1)
inductive Qs where
  |nil
  |cons (k:Int) (i r t:List UInt8) (ps rest:Qs)
deriving DecidableEq
structure Qn where
  k:Int
  i:List UInt8
  r:List UInt8
  t:List UInt8
  ps:Qs
deriving DecidableEq
def Qs.len:Qs→Nat
 | .nil=>0
 | .cons _ _ _ _ _ rest=>rest.len+1
def Qn.push (q:Qn) (rest:Qs):Qs:= .cons q.k q.i q.r q.t q.ps rest
def two (op:Nat) (a b:Qn):Qn:=⟨op,[],[],[],a.push (b.push .nil)⟩
def zero:Qn:=⟨0,[],[],[],.nil⟩
inductive Res where
  |ok (q:Qn) (ts:List Tok)
  |err (pos e:Nat)
deriving DecidableEq
def lp:Tok→Bool:=fun t=>t.kind == 1 && t.text == [40]
def rp:Tok→Bool:=fun t=>t.kind == 1 && t.text == [41]
def isTerm (t:Tok):Bool:=(t.kind == 2 || t.kind == 3) && operator t == 0
mutual
def clause:Nat→Nat→List Tok→Res
 |0,_,_=> .err 0 0
 |_+1,_,[]=> .err 0 0
 |f+1,deep,t::r=>
  if lp t then
   if deep+1>50 then .err t.pos 41
   else match query f (deep+1) r with
    | .err p e=> .err p e
    | .ok _ []=> .err 0 0
    | .ok q (t2::r2)=>if rp t2 then .ok q r2 else .err t2.pos 40
  else if !isTerm t then .err t.pos 40
  else match t.kind == 3,r with
   |true,t2::r2=>
    if relation t2 then
     if !indexes.contains (small t.text)then .err t.pos 42
     else match r2 with
      |[]=> .err 0 0
      |t3::r3=>if isTerm t3 then .ok ⟨1,small t.text,small t2.text,t3.text,.nil⟩ r3 else .err t3.pos 40
    else .ok ⟨1,[97,110,121],[61],t.text,.nil⟩ r
   |_,_=> .ok ⟨1,[97,110,121],[61],t.text,.nil⟩ r
def query:Nat→Nat→List Tok→Res
 |0,_,_=> .err 0 0
 |f+1,deep,ts=>
  match clause f deep ts with
  | .err p e=> .err p e
  | .ok q ts2=>more f deep q ts2
def more:Nat→Nat→Qn→List Tok→Res
 |0,_,_,_=> .err 0 0
 |_+1,_,_,[]=> .err 0 0
 |f+1,deep,q,t::r=>
  if operator t=0 then .ok q (t::r)
  else match clause f deep r with
   | .err p e=> .err p e
   | .ok q2 ts2=>more f deep (two (operator t) q q2) ts2
end
def parse (s:List UInt8):Qn×Nat×Nat:=
 match query (4*s.length+9) 0 (tokens s)with
 | .ok q (t::_)=>if t.kind=0 then(q,0,0)else(zero,t.pos,40)
 | .ok _ []=>(zero,0,40)
 | .err p e=>(zero,p,e)
end Cq
namespace Cq
def Qs.kinds:Qs→List Int
 | .nil=>[]
 | .cons k _ _ _ _ rest=>k::rest.kinds
def a6d (k:Int) (i r t:List UInt8) (n:Nat) (ps:Bool):Bool:=
 if k=1 then indexes.contains i && relations.contains r && n == 0
 else if k<2∨k>4∨i≠[]∨r≠[]∨t≠[]∨n≠2 then false else ps
def Qs.forms:Qs→Bool
 | .nil=>true
 | .cons k i r t ps rest=>a6d k i r t ps.len ps.forms && rest.forms
def form (q:Qn):Bool:=a6d q.k q.i q.r q.t q.ps.len q.ps.forms
def up (k:Int):Nat:=if k=1 then 0 else 1
def a5m (k:Int) (ks:List Int) (ds:List Nat):Nat:=
 if k=1 then 0 else match ks,ds with
  |[_,k1],[a,b]=>max (b+up k1) a
  |_,_=>0
def Qs.depths:Qs→List Nat
 | .nil=>[]
 | .cons k _ _ _ ps rest=>a5m k ps.kinds ps.depths::rest.depths
def depth (q:Qn):Nat:=a5m q.k q.ps.kinds q.ps.depths
def right (q:Qn):Bool:=form q && decide (depth q≤50)
def Qs.size:Qs→Nat
 | .nil=>0
 | .cons _ _ _ _ ps rest=>ps.size+rest.size+1
def Qn.size (q:Qn):Nat:=q.ps.size
def Qn.Two (q a b:Qn):Prop:=q.ps=a.push (b.push .nil)
theorem Qs.a9s:∀{ps:Qs},ps.len=2→∃a b:Qn,ps=a.push (b.push .nil)
 | .nil,h=>by simp[Qs.len]at h
 | .cons _ _ _ _ _ .nil,h=>by simp[Qs.len]at h
 | .cons k i r t ps (.cons k' i' r' t' ps' .nil),_=>⟨⟨k,i,r,t,ps⟩,⟨k',i',r',t',ps'⟩,rfl⟩
 | .cons _ _ _ _ _ (.cons _ _ _ _ _ (.cons _ _ _ _ _ _)),h=>by simp[Qs.len]at h
theorem Qn.Two.size{q a b:Qn}(h:q.Two a b):a.size<q.size∧b.size<q.size:=by
 simp only[Qn.size,show q.ps=_ from h,Qn.push,Qs.size];omega
theorem Qn.Two.len{q a b:Qn}(h:q.Two a b):q.ps.len=2:=by rw[show q.ps=_ from h];rfl
theorem a0w{q:Qn}(h:q.k=1):form q=(indexes.contains q.i && relations.contains q.r && q.ps.len == 0):=by simp[form,a6d,h]
theorem a3u{q:Qn}(h:q.k≠1)(h2:q.k<2∨q.k>4∨q.i≠[]∨q.r≠[]∨q.t≠[]∨q.ps.len≠2):form q=false:=by unfold form a6d;rw[zD h,zF h2]
theorem a1H{q a b:Qn}(h:q.k≠1)(h2:¬(q.k<2∨q.k>4∨q.i≠[]∨q.r≠[]∨q.t≠[]∨q.ps.len≠2))(A:q.Two a b):form q=(form a && form b):=by
 unfold form a6d;rw[zD h,zD h2,show q.ps=_ from A];simp[Qn.push,Qs.forms,a6d]
theorem WL{q:Qn}(h:form q=true):q.k=1∨(q.k≠1∧2≤q.k∧q.k≤4∧∃a b,q.Two a b∧form a=true∧form b=true):=by
 by_cases h1:q.k=1
 ·exact .inl h1
 by_cases h2:q.k<2∨q.k>4∨q.i≠[]∨q.r≠[]∨q.t≠[]∨q.ps.len≠2
 ·rw[a3u h1 h2]at h;cases h
 obtain⟨a,b,A⟩:=Qs.a9s (ps:=q.ps) oM;rw[a1H h1 h2 A,yP]at h;exact .inr ⟨h1,oM,oM,a,b,A,h.1,h.2⟩
theorem XI{q:Qn}(h:q.k=1):depth q=0:=by simp[depth,a5m,h]
theorem a0p{q a b:Qn}(h:q.k≠1)(A:q.Two a b):depth q=max (depth b+up b.k) (depth a):=by
 unfold depth;rw[show q.ps=_ from A];simp[Qn.push,Qs.depths,Qs.kinds,a5m,h]
def Qs.wide:Qs→Nat
 | .nil=>0
 | .cons _ i r t ps rest=>i.length+r.length+t.length+ps.wide+rest.wide
def Qn.wide (q:Qn):Nat:=q.i.length+q.r.length+q.t.length+q.ps.wide
theorem Qn.Two.wide{q a b:Qn}(h:q.Two a b):a.wide≤q.wide∧b.wide≤q.wide:=by
 unfold Qn.wide;rw[show q.ps=_ from h];simp only[Qn.push,Qs.wide];omega
def deep (q:Qn):Int:=if form q then(depth q:Int)else -1
theorem c2X{q:Qn}(h:q.k=1):deep q=if (indexes.contains q.i && relations.contains q.r && q.ps.len == 0)then 0 else -1:=by
 unfold deep;rw[a0w h,XI h];rfl
theorem c4m{q:Qn}(h:q.k≠1)(h2:q.k<2∨q.k>4∨q.i++q.r++q.t≠[]∨q.ps.len≠2):deep q= -1:=by
 unfold deep;rw[a3u h (by
  rcases h2 with h2|h2|h2|h2
  ·exact .inl h2
  ·exact .inr (.inl h2)
  ·by_cases hi:q.i=[]
   ·by_cases hr:q.r=[]
    ·exact .inr (.inr (.inr (.inr (.inl fun A=>h2 (by simp[hi,hr,A])))))
    exact .inr (.inr (.inr (.inl hr)))
   exact .inr (.inr (.inl hi))
  exact .inr (.inr (.inr (.inr (.inr h2)))))]
 rfl
theorem c5Q{q a b:Qn}(h:q.k≠1)(h2:¬(q.k<2∨q.k>4∨q.i≠[]∨q.r≠[]∨q.t≠[]∨q.ps.len≠2))(A:q.Two a b):deep q=if min (deep a) (deep b)<0 then -1 else max (deep a) (deep b+up b.k):=by
 unfold deep;rw[a1H h h2 A,a0p h A];cases form a<;>cases form b<;>simp<;>omega
theorem b8d(q:Qn): -1≤deep q:=by unfold deep;split<;>omega
theorem a3C:∀(n:Nat) (q:Qn),q.size<n→form q=true→depth q≤q.size
 |0,q,h,_=>oM
 |n+1,q,h,hf=>by
  rcases WL hf with G|⟨G,_,_,a,b,A,M,N⟩
  ·rw[XI G];exact sQ _
  have h1:=A.size;have O:=a3C n a oM M;have Q:=a3C n b oM N;have Z:up b.k≤1:=by unfold up;split<;>omega
  rw[a0p G A];omega
theorem b7u(q:Qn):deep q≤q.size:=by
 unfold deep
 split
 ·rename_i h;have:=a3C _ q (sZ _) h;omega
 omega
theorem a9q(q:Qn):(decide (deep q≥0) && decide (deep q≤50))=right q:=by
 unfold deep right;cases form q<;>simp;omega
end Cq
namespace Go.Sx
open Cq
def QC (I:Heap):Qs→List Value→Prop
 | .nil,_=>True
 | .cons k i r t ps rest,cs=>∃p c tl,cs=i64 k::str i::str r::str t:: .slice p ps.len c::tl∧
  (ps= .nil∨∃(b off:Nat) (cs':List Value) (T:TypeId) (fr:Nat×Nat),p=some ⟨b,off,none⟩∧I b=some (.cells cs'.toArray T fr)∧QC I ps (cs'.drop off))∧QC I rest tl
theorem QC.mono{I G:Heap}(A:Le I G):∀{q:Qs} {cs:List Value},QC I q cs→QC G q cs
 | .nil,_,_=>trivial
 | .cons _ _ _ _ _ps _rest,_,⟨p,c,tl,h1,h2,h3⟩=>⟨p,c,tl,h1,h2.imp id fun⟨b,off,cs',T,fr,M,N,O⟩=>⟨b,off,cs',T,fr,M,A _ _ N,QC.mono A O⟩,QC.mono A h3⟩
def PS (I:Heap) (ps:Qs) (p:Option Addr):Prop:=ps= .nil∨∃(b off:Nat) (cs':List Value) (T:TypeId) (fr:Nat×Nat),p=some ⟨b,off,none⟩∧I b=some (.cells cs'.toArray T fr)∧QC I ps (cs'.drop off)
theorem PS.mono{I G:Heap}{ps:Qs}{p:Option Addr}(h:PS I ps p)(A:Le I G):PS G ps p:=
 h.imp id fun⟨b,off,cs',T,fr,M,N,O⟩=>⟨b,off,cs',T,fr,M,A _ _ N,QC.mono A O⟩
abbrev BR (q:Qn) (p:Option Addr) (c:Nat):List Value:=[i64 q.k,str q.i,str q.r,str q.t,.slice p q.ps.len c]
def QV (I:Heap) (q:Qn) (v:Value):Prop:=∃p c,v= .agg (BR q p c).toArray∧PS I q.ps p
theorem PS.two{I:Heap}{a b:Qn}{A G:Option Addr}{N O:Nat}{M T:Nat}(Q:PS I a.ps A)(Z:PS I b.ps G)(h:I M=some (yV T (BR a A N++(BR b G O++[])))):PS I (a.push (b.push .nil)) (some ⟨M,0,none⟩):=
 .inr ⟨M,0,_,T,(0,0),rfl,h,A,N,_,rfl,Q,G,O,_,rfl,Z,trivial⟩
theorem PS.a5W{I:Heap}{q a b:Qn}{p:Option Addr}(h:PS I q.ps p)(ht:q.Two a b):
 ∃G off cs' T fr M O N Q,p=some ⟨G,off,none⟩∧I G=some (.cells (List.toArray cs') T fr)∧(cs'.drop off).take 5=BR a M O∧(cs'.drop (off+5)).take 5=BR b N Q∧cs'[off+5]?=some (i64 b.k)∧PS I a.ps M∧PS I b.ps N:=by
 rw[show q.ps=_ from ht]at h;rcases h with h|⟨G,off,cs',T,fr,rfl,hI,M,O,tl,A,Z,N,Q,a2,a0,a1,_⟩
 ·cases h
 subst a0;refine⟨G,off,cs',T,fr,M,O,N,Q,rfl,hI,?_,?_,?_,Z,a1⟩
 ·rw[A];rfl
 ·rw[←xY,A];rfl
 rw[←xH,A];rfl
end Go.Sx
section
namespace Go.Sx
end Go.Sx
namespace Cq
theorem a4b(r:List UInt8):quoted (34::r)=some ([],1):=by rw[quoted.eq_def];simp
theorem a2E(c:UInt8)(r:List UInt8)(A:c≠34)(G:c≠92):quoted (c::r)=(quoted r).map fun p=>(c::p.1,p.2+1):=by
 rw[quoted.eq_def];simp[A,G]
theorem a3S(d:UInt8)(r:List UInt8):quoted (92::d::r)=(quoted r).map fun p=>(d::p.1,p.2+2):=by
 rw[quoted.eq_def];simp
theorem a2H:quoted [92]=none:=by rw[quoted.eq_def];simp
theorem YJ:quoted []=none:=by rw[quoted.eq_def]
def GV (s:List UInt8) (i:Nat):List UInt8×Nat:=
 match quoted (s.drop (i+1))with
 |some (t,n)=>(t,i+1+n)
 |none=>([],0)
structure QF (s:List UInt8) (i k:Nat) (out:List UInt8):Prop where
  le:k≤s.length+1
  lo:i+1≤k
  ol:out.length≤k
  eq:(quoted (s.drop k)).map (fun p=>(out++p.1,p.2+(k-(i+1))))=quoted (s.drop (i+1))
theorem QF.start(s:List UInt8)(i:Nat)(A:i<s.length):QF s i (i+1) []:=by
 refine⟨oM,oM,sI,?_⟩;cases quoted (s.drop (i+1))<;>simp
theorem KH{s:List UInt8}{k:Nat}{c:UInt8}(h:s[k]?=some c):s.drop k=c::s.drop (k+1):=by
 obtain⟨A,G⟩:=xC.1 h;rw[List.drop_eq_getElem_cons A,G]
theorem QF.byte{s:List UInt8}{i k:Nat}{out:List UInt8}(h:QF s i k out)(N:k<s.length)(c:UInt8)(M:s[k]?=some c)(A:c≠34)(G:c≠92):QF s i (k+1) (out++[c]):=by
 have O:=h.lo;refine⟨oM,oM,by have:=h.ol;simp;omega,?_⟩;rw[←h.eq,KH M,a2E c _ A G];cases quoted (s.drop (k+1))with
 |none=>rfl
 |some p=>simp;omega
theorem QF.esc{s:List UInt8}{i k:Nat}{out:List UInt8}(h:QF s i k out)(M:k<s.length)(c:UInt8)(N:s[k]?=some c)(A:c=92)(d:UInt8)(G:s[k+1]?=some d):QF s i (k+2) (out++[d]):=by
 have O:=h.lo;obtain⟨_,_⟩:=xC.1 G;refine⟨oM,oM,by have:=h.ol;simp;omega,?_⟩;rw[←h.eq,KH N,KH G,A,a3S];cases quoted (s.drop (k+1+1))with
 |none=>rfl
 |some p=>simp;omega
theorem QF.fin{s:List UInt8}{i k:Nat}{out:List UInt8}(h:QF s i k out)(N:k<s.length)(c:UInt8)(G:s[k]?=some c)(A:c=92)(M:s.length≤k+1):QF s i (k+2) out:=by
 have O:=h.lo;refine⟨oM,oM,by have:=h.ol;omega,?_⟩;rw[←h.eq,KH G,A,xX M,xX oM,a2H,YJ];rfl
theorem QF.quote{s:List UInt8}{i k:Nat}{out:List UInt8}(h:QF s i k out)(c:UInt8)(G:s[k]?=some c)(A:c=34):GV s i=(out,k+1):=by
 have M:=h.lo;unfold GV;rw[←h.eq,KH G,A,a4b];simp;omega
theorem QF.past{s:List UInt8}{i k:Nat}{out:List UInt8}(h:QF s i k out)(A:s.length≤k):GV s i=([],0):=by
 unfold GV;rw[←h.eq,xX A,YJ];rfl
end Cq
namespace Go.Sx
abbrev a7D (t:Cq.Tok):Value:= .agg #[i64 t.kind,str t.text,i64 t.pos]
end Go.Sx
namespace Cq
structure YV (s:List UInt8) (k:Nat) (l:List UInt8):Prop where
  le:k≤s.length
  eq:l=(s.take k).map low++s.drop k
theorem YV.len{s:List UInt8}{k:Nat}{l:List UInt8}(h:YV s k l):l.length=s.length:=by
 have:=h.le;rw[h.eq];simp;omega
theorem YV.get{s:List UInt8}{k:Nat}{l:List UInt8}{c:UInt8}(h:YV s k l)(A:s[k]?=some c):l[k]?=some c:=by
 have:=h.le;rw[h.eq,xI (by simp;omega)];simp[sW h.le,A]
theorem YV.next{s:List UInt8}{k:Nat}{l:List UInt8}{c:UInt8}(h:YV s k l)(A:s[k]?=some c):YV s (k+1) (l.set k (low c)):=by
 obtain⟨G,M⟩:=xC.1 A;refine⟨oM,?_⟩;rw[h.eq,uO _ _ (by simp;omega),tN G,M,KH A];simp[sW h.le]
theorem YV.same{s:List UInt8}{k:Nat}{l:List UInt8}{c:UInt8}(h:YV s k l)(A:s[k]?=some c)(G:low c=c):YV s (k+1) l:=by
 have:=h.next A;rw[G]at this
 rwa [show l.set k c=l from by
  apply List.ext_getElem?
  intro j;rw[xA]
  split
  ·rename_i M;subst M
   have:=h.get A
   split
   ·exact this.symm
   rename_i N;simp[xE (Nat.not_lt.1 N)]at this
  rfl]at this
theorem YV.done{s:List UInt8}{k:Nat}{l:List UInt8}(h:YV s k l)(A:s.length≤k):l=small s:=by
 rw[h.eq,tX A,xX A];simp[small]
end Cq
namespace Cq
theorem XP:∀(n:Nat) (r:List UInt8) (p:List UInt8×Nat),r.length≤n→quoted r=some p→1≤p.2∧p.2≤r.length∧p.1.length≤r.length
 |_,[],p,_,h=>by rw[YJ]at h;cases h
 |0,_::_,_,hn,_=>by simp at hn
 |n+1,c::r,p,hn,h=>by
  by_cases h34:c=34
  ·subst h34;rw[a4b]at h;cases h;simp
  by_cases h92:c=92
  ·subst h92;cases r with
   |nil=>rw[a2H]at h;cases h
   |cons d A=>
    rw[a3S]at h;cases hq:quoted A with
    |none=>rw[hq]at h;cases h
    |some q=>
     rw[hq]at h;cases h;have:=XP n A q (by simp at hn;omega) hq;simp;omega
  rw[a2E c r h34 h92]at h;cases hq:quoted r with
  |none=>rw[hq]at h;cases h
  |some q=>
   rw[hq]at h;cases h;have:=XP n r q (by simp at hn;omega) hq;simp;omega
theorem c6t(rest:List UInt8)(j:Nat)(h:over (head rest j).1=false):1≤(head rest j).2∧(head rest j).2≤rest.length:=by
 cases rest with
 |nil=>simp[head,over]at h
 |cons c r=>
  unfold head at*
  by_cases h34:c=34
  ·simp only[h34,if_true]at *;cases hq:quoted r with
   |none=>rw[hq]at h;simp[over]at h
   |some q=>
    have:=XP _ r q (tH _) hq;simp;omega
  simp only[h34,if_false]at*
  split
  ·rename_i h1
   have:r≠[]:=fun A=>by simp[A]at h1
   have:=wK.2 this;simp;omega
  split
  ·rename_i h1
   have:r≠[]:=fun A=>by simp[A]at h1
   have:=wK.2 this;simp;omega
  split
  ·rename_i h1 h2 h3
   simp[h3,over]at h
   simp_all
  split
  ·rename_i G
   constructor
   ·simp[G]
   exact(bI _).length_le
  simp
theorem b0f(s:List UInt8)(i:Nat)(h:i≤s.length):i≤skip s i∧skip s i≤s.length:=by
 unfold skip;have:=(bI (p:=blank) (l:=s.drop i)).length_le;simp at this;omega
theorem ZE(s:List UInt8)(i:Nat)(A:i≤s.length)(h:over (lex s i).1=false):i<(lex s i).2∧(lex s i).2≤s.length:=by
 have h1:=b0f s i A;have h2:=c6t (s.drop (skip s i)) (skip s i) h;simp only[lex]at *;simp at h2;omega
theorem b1V(s:List UInt8):∀(n f A i:Nat),i≤s.length→s.length-i≤n→s.length-i<f→s.length-i<A→toks s f i=toks s A i
 |n,0,_,i,_,_,h,_=>oM
 |n,_,0,i,_,_,_,h=>oM
 |n,f+1,A+1,i,hi,hn,h1,h2=>by
  simp only[toks];cases ho:over (lex s i).1 with
  |true=>rfl
  |false=>
   have G:=ZE s i hi ho;cases n with
   |zero=>omega
   |succ n=>
    simp only[yL,if_false];rw[b1V s n f A _ G.2 oM oM oM]
def a4v (s:List UInt8) (i:Nat):List Tok:=toks s (s.length+1-i) i
theorem VY(s:List UInt8)(i:Nat)(A:i≤s.length):a4v s i=if over (lex s i).1 then[(lex s i).1]else(lex s i).1::a4v s (lex s i).2:=by
 unfold a4v;obtain⟨f,G⟩:∃f,s.length+1-i=f+1:=⟨s.length-i,oM⟩;rw[G,toks];cases ho:over (lex s i).1 with
 |true=>rfl
 |false=>
  have M:=ZE s i A ho;simp only[yL,if_false];rw[b1V s s.length f (s.length+1-(lex s i).2) _ M.2 oM oM oM]
theorem b8T{s:List UInt8}{k:Nat}{c:UInt8}(h:s[k]?=some c)(A:blank c=true):skip s k=skip s (k+1):=by
 unfold skip;rw[KH h,uH,zF A];simp;omega
theorem c4O{s:List UInt8}{k:Nat}{c:UInt8}(h:s[k]?=some c)(A:blank c=false):skip s k=k:=by
 unfold skip;rw[KH h,uH,A];simp
theorem a5G{s:List UInt8}{k:Nat}{c:UInt8}(h:s[k]?=some c)(A:blank c=false):lex s k=((head (c::s.drop (k+1)) k).1,k+(head (c::s.drop (k+1)) k).2):=by
 unfold lex;rw[c4O h A,KH h]
theorem c8X(s:List UInt8):lex s s.length=(⟨0,[],s.length⟩,s.length):=by
 unfold lex;have:skip s s.length=s.length:=by unfold skip;simp
 rw[this];simp[head]
structure a0C (s:List UInt8) (k:Nat) (outs:List Tok):Prop where
  le:k≤s.length
  eq:tokens s=outs++a4v s k
  num:outs.length≤k
theorem a0C.start(s:List UInt8):a0C s 0 []:=⟨sQ _,by simp[tokens,a4v],sI⟩
theorem a0C.blank{s:List UInt8}{k:Nat}{A:List Tok}{c:UInt8}(h:a0C s k A)(M:s[k]?=some c)(N:Cq.blank c=true):a0C s (k+1) A:=by
 obtain⟨_,_⟩:=xC.1 M;have G:lex s k=lex s (k+1):=by unfold lex;rw[b8T M N]
 refine⟨oM,?_,by have:=h.num;omega⟩;rw[h.eq,VY s k h.le,VY s (k+1) oM,G]
theorem a0C.push{s:List UInt8}{k M:Nat}{A:List Tok}{t:Tok}(h:a0C s k A)(G:lex s k=(t,M))(N:over t=false):a0C s M (A++[t]):=by
 have h1:=ZE s k h.le (by rw[G];exact N);rw[G]at h1;refine⟨h1.2,?_,by have:=h.num;simp;simp at h1;omega⟩;rw[h.eq,VY s k h.le,G];simp[N]
theorem a0C.last{s:List UInt8}{k G:Nat}{A:List Tok}{t:Tok}(h:a0C s k A)(M:lex s k=(t,G))(N:over t=true):tokens s=A++[t]:=by
 rw[h.eq,VY s k h.le,M];simp[N]
structure KA (s:List UInt8) (k n:Nat):Prop where
  lo:k≤n
  le:n≤s.length
  all:(s.drop k).takeWhile Cq.plain=(s.take n).drop k++(s.drop n).takeWhile Cq.plain
theorem KA.start{s}{k:Nat}(h:k≤s.length):KA s k k:=⟨tH _,h,sI⟩
theorem KA.next{s:List UInt8}{k n:Nat}{c:UInt8}(h:KA s k n)(A:s[n]?=some c)(M:Cq.plain c=true):KA s k (n+1):=by
 obtain⟨G,N⟩:=xC.1 A;have:=h.lo;refine⟨oM,oM,?_⟩;rw[h.all,KH A,uH,zF M,tN G,N,List.drop_append_of_le_length (by simp;omega)];simp
theorem KA.stop{s:List UInt8}{k n:Nat}(h:KA s k n)(A:∀c,s[n]?=some c→Cq.plain c=false):(s.drop k).takeWhile Cq.plain=(s.take n).drop k:=by
 rw[h.all];cases hc:s[n]? with
 |none=>
  have:s.drop n=[]:=xX (by simpa using hc);rw[this];simp
 |some c=>rw[KH hc,uH,A c hc];simp
theorem b6x{c:UInt8}(h:plain c=true):c≠34∧c≠61∧c≠62:=by
 refine⟨?_,?_,?_⟩<;>(intro e;subst e;revert h;decide)
theorem b0V{s:List UInt8}{k:Nat}{c:UInt8}(h:s[k]?=some c)(G:blank c=false)(A:c=34):
 ((GV s k).2=0→lex s k=(⟨4,[],k⟩,s.length))∧((GV s k).2≠0→lex s k=(⟨2,(GV s k).1,k⟩,(GV s k).2)):=by
 obtain⟨_,_⟩:=xC.1 h;rw[a5G h G];subst A;unfold head GV;simp only[if_true];cases hq:quoted (s.drop (k+1))with
 |none=>simp;omega
 |some p=>simp;omega
theorem b5Y{s:List UInt8}{k n:Nat}{c:UInt8}(h:s[k]?=some c)(O:blank c=false)(N:plain c=true)(G:KA s k n)(Q:∀c,s[n]?=some c→Cq.plain c=false):
 lex s k=(⟨3,(s.take n).drop k,k⟩,n):=by
 rw[a5G h O];have A:=b6x N;have h1:=G.stop Q;rw[KH h]at h1;have M:=zC bU h1;have:=G.lo;have:=G.le;unfold head;simp only[A.1,A.2.1,A.2.2,false_and,if_false,N,if_true,h1];simp at M ⊢;omega
theorem b8p{s:List UInt8}{k:Nat}{c:UInt8}(h:s[k]?=some c)(A:blank c=false)(G:c=61∨c=62)(h2:s[k+1]?=some 61):lex s k=(⟨1,[c,61],k⟩,k+2):=by
 rw[a5G h A,KH h2];unfold head;rcases G with rfl|rfl<;>simp
theorem b7z{s:List UInt8}{k:Nat}{c:UInt8}(h:s[k]?=some c)(A:blank c=false)(G:c=62)(h2:s[k+1]?≠some 61):lex s k=(⟨4,[],k⟩,k):=by
 rw[a5G h A];subst G;unfold head;have:(s.drop (k+1)).head?≠some 61:=by rw[bC];exact h2
 rw[bC]at this;simp[this]
theorem c9c{s:List UInt8}{k:Nat}{c:UInt8}(h:s[k]?=some c)(M:blank c=false)(A:c≠34)(N:plain c=false)(G:c≠62)(h2:¬(c=61∧s[k+1]?=some 61)):lex s k=(⟨1,[c],k⟩,k+1):=by
 rw[a5G h M];unfold head;have:¬(c=61∧(s.drop (k+1)).head?=some 61):=by rw[bC];exact h2
 rw[bC]at this;simp[this,A,G,N]
def ZB (t:Tok):List Go.Value:=[Go.Sx.i64 t.kind,Go.Sx.str t.text,Go.Sx.i64 t.pos]
end Cq
namespace Go.Sx
def d1e (T:TypeId) (I:Heap) (l:List Cq.Tok) (v:Value):Prop:=∃b c sp,v= .slice (some ⟨b,0,none⟩) l.length c∧I b=some (yV T (l.flatMap Cq.ZB++sp))
open Cq
theorem RZ:∀{all:List Tok} {sp:List Value} {k:Nat} {t:Tok} {r:List Tok},all.drop k=t::r→((all.flatMap ZB++sp).drop (k*3)).take 3=ZB t
 |[],_,k,t,r,h=>by simp at h
 |x::l,sp,0,t,r,h=>by
  simp at h;obtain⟨rfl,rfl⟩:=h;simp[ZB]
 |x::l,sp,k+1,t,r,h=>by
  have A:l.drop k=t::r:=by simpa using h
  have:=RZ (sp:=sp) A;rw[←this,xO,yE];have:(k+1)*3=(ZB x).length+k*3:=by simp[ZB];omega
  rw[this,b5w]
theorem a7F{all:List Tok}{sp:List Value}{k:Nat}{t:Tok}{r:List Tok}(h:all.drop k=t::r)(j:Nat)(A:j<3):(all.flatMap ZB++sp)[k*3+j]?=(ZB t)[j]?:=by
 have:=RZ (sp:=sp) h;rw[←this,wZ,zF A,xH]
theorem PK{α:Type}{all:List α}{k:Nat}{t:α}{r:List α}(h:all.drop k=t::r):k<all.length:=by
 rcases tC k all.length with A|A
 ·exact A
 rw[xX A]at h;cases h
theorem LZ{α:Type}{all:List α}{k:Nat}{t:α}{r:List α}(h:all.drop k=t::r):all.drop (k+1)=r:=by
 rw[←xY,h];rfl
end Go.Sx
namespace Cq
def YG (ts:List Tok):Prop:=∃l t,ts=l++[t]∧over t=true
theorem YG.cons{t:Tok}{r:List Tok}(h:YG (t::r))(M:over t=false):YG r:=by
 obtain⟨l,x,A,G⟩:=h;cases l with
 |nil=>simp at A;obtain⟨rfl,rfl⟩:=A;rw[M]at G;cases G
 |cons y l=>simp at A;exact⟨l,x,A.2,G⟩
theorem YG.ne{ts:List Tok}(h:YG ts):∃t r,ts=t::r:=by
 obtain⟨l,x,A,_⟩:=h;cases l with
 |nil=>exact⟨x,[],A⟩
 |cons y l=>exact⟨y,l++[x],A⟩
theorem a3b{t:Tok}(h:lp t=true):over t=false:=by
 simp only[lp,yP,beq_iff_eq]at h;simp[over,h.1]
theorem b8k{t:Tok}(h:rp t=true):over t=false:=by
 simp only[rp,yP,beq_iff_eq]at h;simp[over,h.1]
theorem TG{t:Tok}(h:isTerm t=true):over t=false:=by
 simp only[isTerm,yP,bY,beq_iff_eq]at h;rcases h.1 with h|h<;>simp[over,h]
theorem a6q{t:Tok}(h:operator t≠0):over t=false:=by
 unfold operator at h
 split at h
 ·exact absurd rfl h
 rename_i h1
 have h2:t.kind=3:=by simpa using h1
 simp[over,h2]
theorem a1z{t:Tok}(h:relation t=true):over t=false:=by
 simp only[relation,yP,bY,beq_iff_eq]at h;rcases h.2 with h|h<;>simp[over,h]
def Less (ts:List Tok):Res→Prop
 | .ok _ ts2=>YG ts2∧ts2.length<ts.length
 | .err _ _=>True
theorem less:∀f,(∀deep ts,YG ts→Less ts (clause f deep ts))∧(∀deep ts,YG ts→Less ts (query f deep ts))∧∀deep q ts,YG ts→∀Z A,more f deep q ts= .ok Z A→YG A∧A.length≤ts.length
 |0=>⟨fun _ _ _=>by simp[clause,Less],fun _ _ _=>by simp[query,Less],fun _ _ _ _ _ _ h=>by simp[more]at h⟩
 |f+1=>by
  obtain⟨hc,hq,hm⟩:=less f;refine⟨fun deep ts G=>?_,fun deep ts G=>?_,fun deep q ts G Z A h=>?_⟩
  ·obtain⟨t,r,rfl⟩:=G.ne;unfold clause
   by_cases h1:lp t=true
   ·have M:=G.cons (a3b h1);rw[zF h1]
    split
    ·trivial
    have:=hq (deep+1) r M;cases hx:query f (deep+1) r with
    |err p e=>trivial
    |ok q A=>
     rw[hx]at this;obtain⟨O,hl⟩:=this;obtain⟨t2,r2,rfl⟩:=O.ne;simp only[]
     split
     ·rename_i h2
      exact⟨O.cons (b8k h2),by simp at hl ⊢;omega⟩
     trivial
   rw[zD h1]
   by_cases h2:isTerm t=true
   ·have M:=G.cons (TG h2);rw[zD (by simp[h2])];obtain⟨t2,r2,rfl⟩:=M.ne;cases h3:t.kind == 3 with
    |false=>exact⟨M,sI⟩
    |true=>
     simp only[]
     by_cases h4:relation t2=true
     ·rw[zF h4];have Q:=M.cons (a1z h4)
      split
      ·trivial
      obtain⟨t3,_,rfl⟩:=Q.ne;simp only[]
      by_cases h5:isTerm t3=true
      ·rw[zF h5];exact⟨Q.cons (TG h5),by simp;omega⟩
      rw[zD h5];trivial
     rw[zD h4];exact⟨M,sI⟩
   rw[zF (by simpa using h2)];trivial
  ·unfold query;have:=hc deep ts G;cases hx:clause f deep ts with
   |err p e=>trivial
   |ok q A=>
    rw[hx]at this;simp only[];cases hy:more f deep q A with
    |err p e=>trivial
    |ok q3 N=>
     have:=hm deep q A this.1 q3 N hy;have h1:=this
     rename_i h0
     exact⟨h1.1,by have:=h0.2;omega⟩
  obtain⟨t,r,rfl⟩:=G.ne;unfold more at h
  by_cases h1:operator t=0
  ·rw[zF h1]at h;cases h;exact⟨G,tH _⟩
  rw[zD h1]at h;have M:=G.cons (a6q h1);have:=hc deep r M;cases hx:clause f deep r with
  |err p e=>rw[hx]at h;cases h
  |ok q3 N=>
   rw[hx]at h this;have h2:=hm deep _ N this.1 Z A h;have h3:=this.2;exact⟨h2.1,by simp;omega⟩
end Cq
end
section
namespace Go.Proofs.YtalapkjmkjmpjaaGreatDoor
open _root_.Go.Proofs.Tryz
open Go Go.Sx
theorem GK(l:List UInt8):(⟨l.toArray⟩:ByteArray).data.toList=l:=sI
theorem b3e(r:Int)(h:dF r=true):bH r=true:=by
 unfold dF at h;unfold bH;simp at h ⊢;omega
theorem b2Q(r:Int)(I:Heap):∃b,Pure aB 264 [.int .i32 r] I (.bool b)∧(b=true→bH r=true):=
 ⟨_,aP (aH func264 dE rfl) fun w _=>Tryz.utf8_ValidRune r w,b3e r⟩
theorem b3c(l:List UInt8)(c:UInt8)(I:Heap):Pure aB 175 [str l,u8 c] I (i64 (bD l c)):=
 aP (aH func175 dE rfl) fun w _=>by
  have h:=Tryz.strings_IndexByte ⟨l.toArray⟩ c.toNat w;have e:((c.toNat:Int)).toNat.toUInt8=c:=sI;rw[GK,e]at h;exact h
theorem a8F{l:List UInt8}{c:UInt8}(h:∀d∈l,d.toNat<128)(N:128≤c.toNat):bD l c= -1:=by
 induction l with
 |nil=>rfl
 |cons d l A=>
  have O:=h d (.head _);have G:(d == c)=false:=by rw[beq_eq_false_iff_ne];intro e;subst e;omega
  rw[bD,G,A fun x M=>h x (.tail _ M)];rfl
theorem c4g{r:Int}(M:bH r=true)(G:128≤r):2≤(aA r).data.toList.length∧(aA r).data.toList.length≤4∧∃c,(aA r).data.toList[(aA r).data.toList.length-1]?=some c∧128≤c.toNat:=by
 obtain⟨h1,h2,h3⟩:=encode_facts r M G;have N:(aA r).data.toList.length=(aA r).size:=rfl;rw[N];have A:(aA r).size-1<(aA r).size:=oM;exact⟨h1,h2,_,Lib.data_getElem? (aA r) _ A,h3 A⟩
theorem a4e{l:List UInt8}{i:Nat}{c:UInt8}(h:l[i]?=some c)(N:c.toNat<128):aI ⟨l.toArray⟩ i=(c.toNat,1):=by
 obtain⟨A,O⟩:=xC.1 h;have G:i<(⟨l.toArray⟩:ByteArray).size:=by rw[size_mk];exact A
 have M:(⟨l.toArray⟩:ByteArray)[i]'G=c:=by simp[aV,O]
 rw[decode_ascii _ _ G (by rw[M];exact N),M]
theorem a8K(A:List UInt8)(M:∀c∈A,c.toNat<128)(h4:4≤A.length)(ac:A.length≤1000000)(r:Int)(a7:128≤r)(hr:r≤2147483647)(I:Heap):Pure aB 191 [str A,.int .i32 r] I (i64 (-1)):=by
 refine aZ ?_;obtain⟨_,Q⟩:=b2Q r I;refine zN func191 fun w0 _=>?_;refine yU 11 ?_;refine J.XA 2 163 true _ rfl rfl rfl (zH oM) (CU zS ?_);refine J.XA 2 163 true _ rfl rfl rfl (zH oM) (CU (a8P rfl rfl rfl) ?_);refine J.z (MR rfl rfl (zH oM) rfl) ?_;refine yU 3 ?_;refine aX rfl (fun Z=>aF (aT (aY (zI oM)) Z)) (fun Z=>?_);refine yZ ?_ ?_<;>intro a0 a8
 ·refine yU 4 ?_;refine bP rfl (OJ rfl rfl rfl rfl AV ?_);intro b3 _;refine yU 3 ?_;refine aU (ι:=Nat) (fun i=>True) (fun i=>A.length-i) (fun i=>[(0,str A),(1,.int .i32 r),(174,str A),(175,ptr b3 0)]) (fun i=>I) (fun i=>[(b3,.stringIter ⟨A.toArray⟩ i)]) 0 trivial rT rfl rfl ?_;rintro i -;rcases tC i A.length with hp|hp
  ·obtain⟨c,G⟩:∃c,A[i]?=some c:=⟨_,AA hp⟩;have a1:=a4e G (M c (CJ G));refine yU 2 ?_;refine bP rfl (ZA 0 rfl rfl rfl rfl rfl (by rw[size_mk];omega) bW ?_);refine yU 22 ?_;refine aX rfl (fun a4=>aF (aT (aY (beq_eq_false_iff_ne.2 (by rw[a1];dsimp only;have:=M c (CJ G);omega))) a4)) (fun a4=>?_);refine yU 2 ?_;refine aN (i+(aI ⟨A.toArray⟩ i).2) trivial (by rw[a1];dsimp only;omega) rT rfl rfl

  refine yU 2 ?_;refine bP rfl (UC 0 rfl rfl rfl rfl rfl (by rw[size_mk];omega) ?_);refine zV ?_;exact rT
 refine zO (Q.1) ?_;refine DF ?_ ?_<;>intro a5
 ·refine zM ?_;exact rT
 have aa:bH r=true:=Q.2 (by simpa using a5);obtain⟨_,_,c2,N,a0⟩:=c4g aa a7;obtain⟨c1,O⟩:∃c,A[(aA r).data.toList.length-1]?=some c:=⟨_,AA oM⟩;have Z:=M c1 (CJ O);have ab:(c1.toNat:Int)≠c2.toNat:=oM;have a9:∀d∈(A.take A.length).drop ((aA r).data.toList.length-1+1),d.toNat<128:=fun d hd=>M d (vO (vP hd));refine Cj.scope ?_;refine yU 28 ?_;refine aU (ι:=Unit) (fun i=>True) (fun i=>0) (fun i=>[(0,str A),(7,str (aA r).data.toList),(8,i64 ((aA r).data.toList.length-1:Int)),(9,i64 ((aA r).data.toList.length-1:Int))]) (fun i=>I) (fun i=>[]) () trivial rT rfl rfl ?_;rintro _ -;refine yU 9 ?_;refine aX rfl (fun a6=>?_) (fun a6=>aF (aT (aY (zH oM)) a6));refine yU 3 ?_;refine Cj.scope ?_;refine yU 2 ?_;refine aQ [] [] 7 kR ?_;refine yU 2 ?_;refine aO 2 rfl (FB rfl rfl rfl AV oM (by rw[show((((aA r).data.toList.length:Int)-1).toNat)=(aA r).data.toList.length-1 by omega];exact O)) ?_;refine yU 2 ?_;refine aO 5 rfl (FB rfl rfl rfl AV oM (by rw[show((((aA r).data.toList.length:Int)-1).toNat)=(aA r).data.toList.length-1 by omega];exact N)) ?_;refine yU 3 ?_;refine aX rfl (fun a2=>?_) (fun a2=>aF (aT (aY (bne_iff_ne.2 ab)) a2));refine yU 1 ?_;refine aQ [] [] 9 kR ?_;refine yU 3 ?_;refine bM 36 (i64 ((aA r).data.toList.length-1+1:Nat)) rfl (by congr 1;omega) ?_;refine aO 3 rfl (AO (p:=(aA r).data.toList.length-1+1) (q:=A.length) rfl rfl AV ⟨_,rfl⟩ rfl oM oM) ?_;refine yU 2 ?_;refine aO 6 rfl (FB rfl rfl rfl AV oM (by rw[show((((aA r).data.toList.length:Int)-1).toNat)=(aA r).data.toList.length-1 by omega];exact N)) ?_;refine zO (b3c _ _ _) ?_;refine yU 1 ?_;refine bM 41 (i64 (-1)) rfl (by rw[a8F a9 a0]) ?_;refine yU 10 ?_;refine aX rfl (fun a3=>?_) (fun a3=>aF (aT (aY (zH oM)) a3));refine yU 8 ?_;refine Ej.b3p ?_;refine yU 4 ?_;refine Ej.b3p ?_;refine zM ?_;exact rT
theorem d1A{l:List UInt8}{j:Nat}{d:UInt8}(h:l[j]?=some d):((⟨l.toArray⟩:ByteArray).get! j).toNat=d.toNat:=by
 obtain⟨A,G⟩:=xC.1 h;show((l.toArray)[j]!).toNat=d.toNat;simp[A,G]
theorem c5F{l:List UInt8}{i:Nat}{c:UInt8}(h:l[i]?=some c)(G:128≤c.toNat):∀j d,i≤j→j<i+(aI ⟨l.toArray⟩ i).2→l[j]?=some d→128≤d.toNat:=by
 intro j d h1 h2 A;have h0:∀k,(i+k<l.length∧((⟨l.toArray⟩:ByteArray).get! (i+k)).toNat / 64=2)→j=i+k→128≤d.toNat:=by
  intro k M N;subst N;rw[d1A A]at M;omega
 by_cases hj:j=i
 ·subst hj;rw[h]at A;cases A;exact G
 simp only[aI]at h2;have O:(⟨l.toArray⟩:ByteArray).size=l.length:=size_mk l
 repeat' split at h2
 all_goals simp only[yP,beq_iff_eq,zG,O]at*
 all_goals first
  |omega
  | (by_cases e1:j=i+1
     ·exact h0 1 (by simp_all) e1
     first
     |omega
     | (by_cases e2:j=i+2
        ·exact h0 2 (by simp_all) e2
        first
        |omega
        |exact h0 3 (by simp_all) oM))
theorem c0s{l A:List UInt8}{i:Nat}{c:UInt8}(M:∀c∈A,c.toNat<128)(O:dD l A i)(h:l[i]?=some c)(Q:128≤c.toNat):dD l A (i+(aI ⟨l.toArray⟩ i).2):=by
 intro j d Z N
 by_cases hji:j<i
 ·exact O j d hji N
 have:=c5F h Q j d oM Z N;rw[yN];intro G;have:=M d (yB.1 G);omega
theorem c3X{l:List UInt8}{i:Nat}{c:UInt8}(h:l[i]?=some c)(G:128≤c.toNat):128≤(aI ⟨l.toArray⟩ i).1∧1≤(aI ⟨l.toArray⟩ i).2:=by
 obtain⟨A,M⟩:=xC.1 h;have N:i<(⟨l.toArray⟩:ByteArray).size:=by rw[size_mk];exact A
 exact decode_high _ _ N (by simp[aV,M,G])
theorem b3B(n:Int)(I:Heap):Pure aB 192 [i64 n] I (.bool (decide (8<n))):=
 aP (aH func192 dE rfl) fun w _=>Tryz.strings_shouldUseASCIISet n w
theorem b2S(l:List UInt8)(c:UInt8)(A:c.toNat<128)(I:Heap):Pure aB 191 [str l,.int .i32 (c.toNat:Int)] I (i64 (bD l c)):=
 aP (aH func191 dE rfl) fun w _=>by
  have h:=Tryz.strings_IndexRune_ascii ⟨l.toArray⟩ c.toNat w oM oM;have e:((c.toNat:Int)).toNat.toUInt8=c:=sI;rw[GK,e]at h;exact h
theorem b2M(s A:List UInt8)(O:8<s.length)(Q:s.length<4294967281)(G:∀c∈A,c.toNat<128)(Z:4≤A.length)(N:A.length≤1000000)(I:Heap):Pure aB 113 [str s,str A] I (i64 (aC s A)):=
 bT (aH func113 dE rfl) fun w _=>by
  have h:=Tryz.strings_IndexAny_long zeroValue287 ⟨s.toArray⟩ ⟨A.toArray⟩ w (by rw[size_mk];omega) (by rw[size_mk];omega) (by rw[size_mk];omega) (by rw[size_mk];omega) (fun j b M=>G b (by rw[GK]at M;exact CJ M));rw[GK,GK]at h;refine h.mono fun e w' ⟨h1,h2⟩=>⟨h1,?_⟩;subst h2;exact((RowKit.Below.refl _ _).alloc (tH _) _).alloc (by show w.heap.size≤(w.heap.push _).size;rw[Array.size_push];omega) _
theorem nonempty{l:List UInt8}(h:4≤l.length):((l == []):Bool)=false:=by cases l with
 |nil=>simp at h
 |cons a l=>rfl
theorem b0F(s G:List UInt8)(h8:s.length≤8)(a0:∀c∈G,c.toNat<128)(h4:4≤G.length)(a4:G.length≤1000000)(I:Heap):Pure aB 113 [str s,str G] I (i64 (aC s G)):=by
 refine aZ ?_;refine zN func113 fun w0 _=>?_;refine yU 12 ?_;refine aX rfl (fun a1=>aF (aT (aY (nonempty h4)) a1)) (fun a1=>?_);refine yU 10 ?_;refine aX rfl (fun a2=>aF (aT (aY (beq_eq_false_iff_ne.2 oM)) a2)) (fun a2=>?_);refine zO (b3B _ _) ?_;refine yU 2 ?_;refine aX rfl (fun a3=>aF (aT (aY (zI oM)) a3)) (fun a3=>?_);refine yU 6 ?_;refine bP rfl (OJ rfl rfl rfl rfl AV ?_);intro b4 _;refine yU 3 ?_;refine aU (ι:=Nat) (fun i=>dD s G i) (fun i=>s.length-i) (fun i=>[(0,str s),(1,str G),(44,str s),(45,ptr b4 0)]) (fun i=>I) (fun i=>[(b4,.stringIter ⟨s.toArray⟩ i)]) 0 (Lib.NoAny.zero _ _) rT rfl rfl ?_;intro i N;rcases tC i s.length with hp|hp;obtain⟨c,A⟩:∃c,s[i]?=some c:=⟨_,AA hp⟩;rcases tC c.toNat 128 with O|O
 ·have M:=a4e A O;refine yU 2 ?_;refine bP rfl (ZA 0 rfl rfl rfl rfl rfl (by rw[size_mk];omega) bW ?_);refine yU 12 ?_;refine J.ez 49 (.int .i32 (c.toNat:Int)) rfl (by rw[M]) ?_;refine zO (b2S G c O _) ?_;refine yZ ?_ ?_<;>intro Q a5
  ·refine zV ?_;refine⟨?_,rfl⟩;rw[Lib.indexAny_hit N A (by rw[bF];exact Q)]
  refine yU 2 ?_;refine aN (i+(aI ⟨s.toArray⟩ i).2) (by rw[M];exact N.succ A (by rw[bF];exact Q)) (by rw[M];dsimp only;omega) rT rfl rfl
 ·have M:=c3X A O;have a6:=decode_le ⟨s.toArray⟩ i;refine yU 2 ?_;refine bP rfl (ZA 0 rfl rfl rfl rfl rfl (by rw[size_mk];omega) bW ?_);refine yU 20 ?_;refine bP rfl (EK rfl rfl rfl rfl rfl (a8K G a0 h4 a4 _ oM oM _) ?_);refine yU 6 ?_;refine aN (i+(aI ⟨s.toArray⟩ i).2) (c0s a0 N A O) oM rT rfl rfl
 have Z:aC s G= -1:=Lib.indexAny_none fun j b _ hb=>N j b oM hb;refine yU 2 ?_;refine bP rfl (UC 0 rfl rfl rfl rfl rfl (by rw[size_mk];omega) ?_);refine zV ?_;refine⟨?_,rfl⟩;rw[Z]
theorem b6z(s A:List UInt8)(O:s.length<4294967281)(M:∀c∈A,c.toNat<128)(N:4≤A.length)(G:A.length≤1000000)(I:Heap):Pure aB 113 [str s,str A] I (i64 (aC s A)):=by
 rcases tC 8 s.length with h|h
 ·exact b2M s A h O M N G I
 exact b0F s A h M N G I
end Go.Proofs.YtalapkjmkjmpjaaGreatDoor
end
section
namespace Go.Proofs.YtalapkjmkjmpjaaGreatDoor
open _root_.Go.Proofs.Tryz
open Go Go.Sx
def blanks:List UInt8:=[32,9,10,13]
def breaks:List UInt8:=[32,9,10,13,40,41,34,61,60,62]
theorem b6I(s:List UInt8)(I:Heap):Pure aB 112 [str s,str blanks] I (str (bG s blanks)):=
 bT (aH func112 dE rfl) fun w _=>by
  have h:=Any.strings_TrimLeft_laid Tryz.lays161 kR ⟨s.toArray⟩ ⟨blanks.toArray⟩ w dE (ascii_of_all dE);rw[GK,GK]at h;exact h
theorem a4G(s p:List UInt8)(I:Heap):Pure aB 62 [str s,str p] I (.bool (p.isPrefixOf s)):=
 aP (aH func62 dE rfl) fun w _=>by
  have h:=Tryz.strings_HasPrefix ⟨s.toArray⟩ ⟨p.toArray⟩ w;rw[GK,GK]at h;exact h
def Tabs (I:Heap):Prop:=∀w:World,(∀b o,I b=some o→w.heap[b]?=some o)→Lib.Utf8Tabs 2 3 w
theorem Tabs.mono{I A:Heap}(h:Tabs I)(G:Le I A):Tabs A:=fun w M=>h w fun b o N=>M b o (G b o N)
def QD (x:Int):Int:=if 65≤x∧x≤90 then x+32 else x
theorem Sx.Pure.below{P:Program}{f:FuncId}{args:List Value}{v:Value}(h:Sx.Pure P f args (fun _=>none) v)(w:World):Calls P f args.toArray w fun e w'=>e= .returned v∧RowKit.Below w.heap.size w w':=
 (h.2 w ⟨fun _ _ h=>(by cases h),fun _ h=>(by cases h),sI,fun _ h=>(by cases h)⟩).mono fun e w' ⟨_,H',A,h1,_,_⟩=>⟨h1,A.os,A.tape,A.output,A.size,fun k G=>A.frm k G sI⟩
def QN (s:List UInt8):List UInt8:=Lib.mapD QD s
theorem decodeL_ascii(c:UInt8)(r:List UInt8)(A:c.toNat<128):aW (c::r)=(c.toNat,1):=a4e (l:=c::r) (i:=0) rfl A
theorem a7i{c:UInt8}(r:List UInt8)(A:c.toNat<128):QN (c::r)=Cq.low c::QN r:=by
 unfold QN;rw[dG _ _ sI,decodeL_ascii c r A];have h0:(0:Int)≤QD c.toNat:=by unfold QD;split<;>omega
 simp only[zF h0,dH,dA];have h1:QD c.toNat=(Cq.low c).toNat:=by
  unfold QD Cq.low
  by_cases h:65≤c.toNat∧c.toNat≤90
  ·rw[zF oM,zF h,UInt8.toNat_add];simp;omega
  rw[zD oM,zD h]
 have h2:(Cq.low c).toNat<128:=by
  have:(0:Int)≤QD c.toNat∧QD c.toNat<128:=by unfold QD;split<;>omega
  omega
 rw[h1,bK,Lib.encodeRuneZ_one oM oM];simp
theorem a5y:∀(s:List UInt8),(∀c∈s,c.toNat<128)→QN s=Cq.small s
 |[],_=>rfl
 |c::r,h=>by rw[a7i r (h c (.head _)),a5y r fun x A=>h x (.tail _ A)];rfl
theorem b6Q{r:Int}(h:128≤r):∃c∈bK r,128≤c.toNat:=by
 unfold bK Lib.encodeRuneZ;rw[zD oM]
 split
 ·exact⟨_,by simp;exact .inl rfl,by simp;omega⟩
 split
 ·exact⟨_,by simp;exact .inl rfl,by simp;omega⟩
 split
 ·exact⟨_,by simp;exact .inl rfl,by simp;omega⟩
 exact⟨239,dE,dE⟩
theorem a7l:∀(s:List UInt8),(∃c∈s,128≤c.toNat)→∃c∈QN s,128≤c.toNat
 |[],h=>by obtain⟨c,h,_⟩:=h;cases h
 |c::r,h=>by
  by_cases hc:c.toNat<128
  ·obtain⟨d,G,N⟩:=h;rcases vX.1 G with rfl|G
   ·omega
   obtain⟨x,M,A⟩:=a7l r ⟨d,G,N⟩;exact⟨x,by rw[a7i r hc];exact .tail _ M,A⟩
  have Q:=c3X (l:=c::r) (i:=0) (c:=c) rfl oM;have O:QD ((aW (c::r)).1:Int)=(aW (c::r)).1:=by
   unfold QD aW;rw[zD oM]
  unfold QN;rw[dG _ _ sI,O,zF oM];obtain⟨x,M,A⟩:=b6Q (r:=(aW (c::r)).1) (by unfold aW;omega);exact⟨x,vZ _ M,A⟩
theorem c5A{c:UInt8}(h:128≤c.toNat):Cq.low c=c:=by unfold Cq.low;rw[zD oM]
theorem WX(s w:List UInt8)(M:∀c∈w,c.toNat<128):QN s=w↔Cq.small s=w:=by
 by_cases h:∀c∈s,c.toNat<128
 ·rw[a5y s h]
 have N:∃c∈s,128≤c.toNat:=by
  apply Classical.byContradiction;intro O;apply h;intro c A
  rcases tC c.toNat 128 with h1|h1
  ·exact h1
  exact absurd ⟨c,A,h1⟩ O
 constructor
 ·intro e;obtain⟨c,A,G⟩:=a7l s N;have:=M c (e▸A);omega
 intro e;obtain⟨c,A,G⟩:=N;have:=M c (e▸(c5A G▸vT (f:=Cq.low) A:c∈Cq.small s));omega
theorem a0h{l:List (List UInt8)}(A:∀w∈l,∀c∈w,c.toNat<128)(s:List UInt8):l.contains (QN s)=l.contains (Cq.small s)∧(l.contains (Cq.small s)=true→QN s=Cq.small s):=by
 refine⟨?_,fun h=>?_⟩
 ·rw[yM,yB,yB];exact⟨fun h=>(WX s _ (A _ h)).1 rfl▸h,fun h=>(WX s _ (A _ h)).2 rfl▸h⟩
 exact(WX s _ (A _ (yB.1 h))).2 rfl
theorem w32{n:Int}(h: -2147483648≤n∧n≤2147483647):IntKind.i32.wrap n=n:=by
 unfold IntKind.wrap;simp[IntKind.bits,IntKind.signed];omega
theorem d0e(x:Int)(h0:0≤x)(h1:x≤1114111)(I:Heap):Pure aB 269 [.int .i32 x] I (.int .i32 (QD x)):=by
 refine zN func269 fun w0 _=>?_;refine EH ?_ ?_<;>intro G
 ·refine yZ ?_ ?_<;>intro M N
  ·have h2:65≤x:=DK G;have h3:x≤90:=DK M;have A:QD x=x+97-65:=by unfold QD;rw[zF ⟨h2,h3⟩];omega
   refine yU 3 ?_;refine J.z (FM rfl rfl rfl (w32 oM)) ?_;refine J.z (VG rfl rfl rfl (w32 oM)) ?_;refine zM ?_;rw[A];exact rT
  have h3:=DN M;have A:QD x=x:=by unfold QD;rw[zD oM]
  refine zM ?_;rw[A];exact rT
 have h2:=DN G;have A:QD x=x:=by unfold QD;rw[zD oM]
 refine zM ?_;rw[A];exact rT
theorem d0g(s:List UInt8)(N:s.length≤10000000000)(I:Heap)(A:Tabs I):Pure aB 237 [.func (.func 269) #[] #[],str s] I (str (QN s)):=
 bT (aH func237 dE rfl) fun w G=>by
  have h:=Tryz.strings_Map_grows 269 #[] (MX (aH func269 dE rfl)) QD ⟨s.toArray⟩ w (by rw[size_mk];omega)
   (fun W x M _=>Sx.Pure.below (d0e x oM oM _) W) (fun x M=>by unfold QD;split<;>omega) (A w G.1)
  rw[GK]at h;exact h
theorem a1M(l:List (List UInt8))(x:List UInt8)(v:Value)(Z:l.length≤1000000)(I:Heap)(G:IK 9 I l v):Pure aB 199 [v,str x] I (.bool (l.contains x)):=by
 obtain⟨b,c,sp,rfl,M⟩:=G;refine aP (aH func199 dE rfl) fun w N=>?_;have h:=Tryz.slices_Contains_string b 0 l.length c (l.map fun y=>⟨y.toArray⟩) ⟨x.toArray⟩ w sI oM (fun j A=>by
  rw[sS];simp at A;refine cell_of_heap (N.1 _ _ M) ?_;rw[EL (x:=l[j]) (AA A)];simp[str,AA A])
 rw[tX sI]at h;have e:Lib.containsS (l.map fun y=>(⟨y.toArray⟩:ByteArray)) ⟨x.toArray⟩=l.contains x:=by
  rw[yM,Lib.containsS_iff,yB,vU];constructor
  ·rintro⟨y,O,Q⟩;have e:y=x:=by simpa using zC dB Q
   exact e▸O
  exact fun h=>⟨x,h,rfl⟩
 rw[e]at h;exact h
theorem c5t(l:List (List UInt8))(x:List UInt8)(v:Value)(O:l.length≤1000000)(I:Heap)(G:IK 9 I l v):Pure aB 201 [v,str x] I (i64 (bZ (l.map fun y=>⟨y.toArray⟩) ⟨x.toArray⟩)):=by
 obtain⟨b,c,sp,rfl,M⟩:=G;refine aP (aH func201 dE rfl) fun w N=>?_;have h:=Tryz.slices_Index_string b 0 l.length c (l.map fun y=>⟨y.toArray⟩) ⟨x.toArray⟩ w sI oM (fun j A=>by
  rw[sS];simp at A;refine cell_of_heap (N.1 _ _ M) ?_;rw[EL (x:=l[j]) (AA A)];simp[str,AA A])
 rw[tX sI]at h;exact h
def opers:List (List UInt8):=[[97,110,100],[111,114],[110,111,116]]
def RF (x:List UInt8):Int:=if x=[97,110,100]then 0 else if x=[111,114]then 1 else if x=[110,111,116]then 2 else -1
theorem ba_eq(x y:List UInt8):((⟨x.toArray⟩:ByteArray)=⟨y.toArray⟩)=(y=x):=by
 apply propext;constructor
 ·intro h;have:=zC dB h;simpa using this.symm
 rintro rfl;rfl
theorem c4v(x:List UInt8):bZ (opers.map fun y=>⟨y.toArray⟩) ⟨x.toArray⟩=RF x:=by
 unfold bZ opers RF;simp only[wF,wC,Lib.idxFromS,ba_eq];rfl
theorem b6h(s:List UInt8):RF (QN s)=RF (Cq.small s):=by
 unfold RF;simp only[WX s [97,110,100] dE,WX s [111,114] dE,WX s [110,111,116] dE]
theorem a9Y(t:Cq.Tok)(h:t.kind=3):(RF (Cq.small t.text)<0→Cq.operator t=0)∧(0≤RF (Cq.small t.text)→(Cq.operator t:Int)=2+RF (Cq.small t.text))∧RF (Cq.small t.text)≤2:=by
 by_cases h1:Cq.small t.text=[97,110,100]
 ·simp[RF,Cq.operator,h,h1]
 by_cases h2:Cq.small t.text=[111,114]
 ·simp[RF,Cq.operator,h,h2]
 by_cases h3:Cq.small t.text=[110,111,116]
 ·simp[RF,Cq.operator,h,h3]
 simp[RF,Cq.operator,h,h1,h2,h3]
theorem b4B(I:Heap):yY aB 200 [] I [] (fun e M H'=>(∃v,e= .returned v∧IK 9 M Cq.indexes v)∧H'=[]):=by
 refine zN func200 fun w0 _=>?_;refine yU 8 ?_;intro N G;refine yU 4 ?_;refine bQ G (fun _ _ A=>?_);refine zM ?_;exact⟨⟨_,rfl,N,6,[],rfl,A⟩,rfl⟩
theorem a2M(I:Heap):yY aB 268 [] I [] (fun e M H'=>(∃v,e= .returned v∧IK 9 M Cq.relations v)∧H'=[]):=by
 refine zN func268 fun w0 _=>?_;refine yU 8 ?_;intro N G;refine yU 4 ?_;refine bQ G (fun _ _ A=>?_);refine zM ?_;exact⟨⟨_,rfl,N,6,[],rfl,A⟩,rfl⟩
theorem b2T(I:Heap):yY aB 202 [] I [] (fun e M H'=>(∃v,e= .returned v∧IK 9 M opers v)∧H'=[]):=by
 refine zN func202 fun w0 _=>?_;refine yU 8 ?_;intro N G;refine yU 4 ?_;refine bQ G (fun _ _ A=>?_);refine zM ?_;exact⟨⟨_,rfl,N,3,[],rfl,A⟩,rfl⟩
theorem a0j(s:List UInt8)(A:s.length≤10000000000)(I:Heap)(G:Tabs I):Pure aB 198 [str s] I (str (QN s)):=by
 refine zN func198 fun w0 _=>?_;refine zO (d0g s A _ G) ?_;refine zM ?_;exact rT
theorem XH(t:Cq.Tok)(hx:t.text.length≤10000000000)(I:Heap)(Q:Tabs I):Pure aB 116 [a7D t] I (i64 (Cq.operator t:Nat)):=by
 refine aZ ?_;refine zN func116 fun w0 _=>?_;refine yU 3 ?_;intro _ _;refine yZ ?_ ?_<;>intro N Z
 ·have hk:¬t.kind=3:=oM;have G:Cq.operator t=0:=by unfold Cq.operator;rw[zF hk]
  refine zV ?_;rw[G];exact rT
 have hk:t.kind=3:=by have:=EC N;omega
 have O:=a9Y t hk;refine yU 3 ?_;refine aQ [0] [] 6 kR ?_;refine zX (b2T _) ?_;intro _ _ _ a0 a2;have Q:=Q.mono a0;obtain⟨⟨_,a3,a1⟩,rfl⟩:=a2;cases a3;refine zO (a0j _ oM _ Q) ?_;refine zO (c5t opers _ _ dE _ a1) ?_;refine yU 1 ?_;refine bM 11 (i64 (RF (Cq.small t.text))) rfl (by rw[c4v,b6h]) ?_;refine yZ ?_ ?_<;>intro A M
 ·have G:Cq.operator t=0:=O.1 (DK A);refine zV ?_;rw[G];exact rT
 have h0:=DN A;have G:=O.2.1 oM;refine zV ?_;rw[G];exact rT
theorem b4Q(t:Cq.Tok)(hx:t.text.length≤10000000000)(I:Heap)(A:Tabs I):Pure aB 197 [a7D t] I (.bool (Cq.relation t)):=by
 refine aZ ?_;refine zN func197 fun w0 _=>?_;refine yU 3 ?_;intro _ _;refine yU 4 ?_;refine aQ [0] [] 16 kR ?_;refine yU 4 ?_;refine bV 6 rfl (fun G=>?_) (fun G=>?_)
 ·have hk:t.kind=3:=by have:=BP G;omega
  refine zX (a2M _) ?_;intro _ _ _ O a2;have A:=A.mono O;obtain⟨⟨_,a3,Q⟩,rfl⟩:=a2;cases a3;refine zO (a0j _ oM _ A) ?_;refine zO (a1M Cq.relations _ _ dE _ Q) ?_;refine yU 1 ?_;refine bM 16 (.bool (Cq.relations.contains (Cq.small t.text))) rfl (by rw[(a0h (l:=Cq.relations) dE t.text).1]) ?_;refine zV ?_;refine⟨?_,rfl⟩
  simp_all[Cq.relation,nb1]
 have hk:¬t.kind=3:=by have:=CB G;omega
 refine yU 5 ?_;refine bV 11 rfl (fun Z=>?_) (fun Z=>?_)
 rotate_left
 ·refine zV ?_;refine⟨?_,rfl⟩
  simp_all[Cq.relation,nb1]
 refine zX (a2M _) ?_;intro _ _ _ M a0;have A:=A.mono M;obtain⟨⟨_,a1,N⟩,rfl⟩:=a0;cases a1;refine zO (a0j _ oM _ A) ?_;refine zO (a1M Cq.relations _ _ dE _ N) ?_;refine yU 1 ?_;refine bM 16 (.bool (Cq.relations.contains (Cq.small t.text))) rfl (by rw[(a0h (l:=Cq.relations) dE t.text).1]) ?_;refine zV ?_;refine⟨?_,rfl⟩
 simp_all[Cq.relation,nb1]
end Go.Proofs.YtalapkjmkjmpjaaGreatDoor
end
namespace Go.Proofs.YtalapkjmkjmpjaaGreatDoor
open Go Go.Sx
theorem ub(c d:UInt8):((c.toNat:Int) == (d.toNat:Int))=(c == d):=by
 rw[yM,beq_iff_eq,beq_iff_eq];exact c0x c d
theorem b2i(c:UInt8):blanks.contains c=Cq.blank c:=by
 have h1:=ub c 32;have h2:=ub c 9;have h3:=ub c 10;have A:=ub c 13;unfold Cq.blank blanks;rw[show((c.toNat:Int) == 32)=(c == 32) from h1,show((c.toNat:Int) == 9)=(c == 9) from h2,show((c.toNat:Int) == 10)=(c == 10) from h3,show((c.toNat:Int) == 13)=(c == 13) from A];simp[dI,List.elem,Bool.or_assoc];cases c == 32<;>cases c == 9<;>cases c == 10<;>cases c == 13<;>rfl
theorem a4P(c:UInt8):breaks.contains c= !Cq.plain c:=by
 have A:=b2i c;have h1:=ub c 40;have h2:=ub c 41;have h3:=ub c 34;have G:=ub c 61;have M:=ub c 60;have N:=ub c 62;unfold Cq.plain breaks;rw[←A];simp only[bne];rw[show((c.toNat:Int) == 40)=(c == 40) from h1,show((c.toNat:Int) == 41)=(c == 41) from h2,show((c.toNat:Int) == 34)=(c == 34) from h3,show((c.toNat:Int) == 61)=(c == 61) from G,show((c.toNat:Int) == 60)=(c == 60) from M,show((c.toNat:Int) == 62)=(c == 62) from N];simp only[dI,List.elem,blanks];cases c == 32<;>cases c == 9<;>cases c == 10<;>cases c == 13<;>cases c == 40<;>cases c == 41<;>cases c == 34<;>cases c == 61<;>cases c == 60<;>cases c == 62<;>rfl
theorem a5f:∀l:List UInt8,(aC l breaks= -1∧l.takeWhile Cq.plain=l)∨∃n:Nat,aC l breaks=n∧n<l.length∧l.takeWhile Cq.plain=l.take n
 |[]=> .inl rT
 |c::l=>by
  rw[aC,a4P,uH];cases hp:Cq.plain c with
  |false=>exact .inr ⟨0,rfl,sI,rfl⟩
  |true=>
   rcases a5f l with⟨h1,h2⟩|⟨n,h1,h2,h3⟩
   ·exact .inl ⟨by rw[h1];rfl,by simp[h2]⟩
   refine .inr ⟨n+1,?_,by simp;omega,by simp[h3]⟩;rw[h1];have:((n:Int) == -1)=false:=by rw[beq_eq_false_iff_ne];omega
   simp[this]
theorem c3J(s:List UInt8)(i:Nat)(G:i≤s.length):(i:Int)+(((s.drop i).length:Int)-((bG (s.drop i) blanks).length:Int))=(Cq.skip s i:Nat):=by
 have A:bG (s.drop i) blanks=(s.drop i).dropWhile Cq.blank:=by
  unfold bG;congr 1;funext c;exact b2i c
 have h:=zC bU (List.takeWhile_append_dropWhile (p:=Cq.blank) (l:=s.drop i));rw[wV]at h;rw[A];unfold Cq.skip;omega
theorem YA{s:List UInt8}{i:Nat}{t:Cq.Tok}{n:Nat}(h:Cq.head (s.drop (Cq.skip s i)) (Cq.skip s i)=(t,n)):Cq.lex s i=(t,Cq.skip s i+n):=by
 unfold Cq.lex;rw[h]
theorem a6P(r:List UInt8)(j:Nat):((Cq.GV (34::r) 0).2=0→Cq.head (34::r) j=(⟨4,[],j⟩,(34::r:List UInt8).length))∧((Cq.GV (34::r) 0).2≠0→Cq.head (34::r) j=(⟨2,(Cq.GV (34::r) 0).1,j⟩,(Cq.GV (34::r) 0).2)):=by
 unfold Cq.GV Cq.head;simp only[sS,dH,dA,if_true];cases Cq.quoted r with
 |none=>simp
 |some q=>simp;omega
theorem b6t(l:List UInt8):(Cq.GV l 0).2≤l.length:=by
 unfold Cq.GV;cases hq:Cq.quoted (l.drop (0+1))with
 |none=>simp
 |some q=>have:=Cq.XP _ _ q (tH _) hq;rw[wS]at this;simp;omega
theorem c4C{c:UInt8}{r:List UInt8}(j:Nat)(h:[61,61].isPrefixOf (c::r)=true):Cq.head (c::r) j=(⟨1,(c::r).take 2,j⟩,2):=by
 cases r with
 |nil=>simp[aK]at h
 |cons d r=>
  simp[aK]at h;obtain⟨rfl,rfl⟩:=h;rfl
theorem c8L{c:UInt8}{r:List UInt8}(j:Nat)(h:[62,61].isPrefixOf (c::r)=true):Cq.head (c::r) j=(⟨1,(c::r).take 2,j⟩,2):=by
 cases r with
 |nil=>simp[aK]at h
 |cons d r=>
  simp[aK]at h;obtain⟨rfl,rfl⟩:=h;rfl
theorem b8A{a b c:UInt8}{r:List UInt8}(h:[a,b].isPrefixOf (c::r)=true):2≤(c::r).length:=by
 cases r with
 |nil=>simp[aK]at h
 |cons d r=>simp
theorem a2W{a b c:UInt8}{r:List UInt8}(h:[a,b].isPrefixOf (c::r)=false):¬(c=a∧r.head?=some b):=by
 rintro⟨rfl,h2⟩;cases r with
 |nil=>simp at h2
 |cons d r=>simp at h2;subst h2;simp[aK]at h
theorem c4w{c:UInt8}{r:List UInt8}(j:Nat)(A:c=62)(h2:[62,61].isPrefixOf (c::r)=false):Cq.head (c::r) j=(⟨4,[],j⟩,0):=by
 have:=a2W h2;subst A;unfold Cq.head;simp at this;simp[this]
theorem c8N(r:List UInt8):aC (62::r) breaks=0:=by rw[aC];rfl
theorem c5n{c:UInt8}{r:List UInt8}(j:Nat)(G:c≠34)(h1:[61,61].isPrefixOf (c::r)=false)(h2:[62,61].isPrefixOf (c::r)=false)(M:c≠62)(h0:aC (c::r) breaks=0):Cq.head (c::r) j=(⟨1,(c::r).take 1,j⟩,1):=by
 have A:Cq.plain c=false:=by
  rw[aC,a4P]at h0;cases A:Cq.plain c with
  |false=>rfl
  |true=>
   rw[A]at h0;have:=Lib.indexAny_ge breaks r;rw[Bool.not_true,zD sI]at h0
   by_cases h3:aC r breaks= -1
   ·rw[h3]at h0;cases h0
   rw[zD (by simpa using h3)]at h0;omega
 unfold Cq.head;dsimp only;rw[zD G,zD (a2W h1),zD (a2W h2),zD M,A];rfl
theorem b2s{c:UInt8}{r:List UInt8}(j:Nat)(G:c≠34)(h1:[61,61].isPrefixOf (c::r)=false)(h2:[62,61].isPrefixOf (c::r)=false)(M:c≠62)(h0:aC (c::r) breaks≠0):Cq.head (c::r) j=(⟨3,(c::r).takeWhile Cq.plain,j⟩,((c::r).takeWhile Cq.plain).length):=by
 have A:Cq.plain c=true:=by
  cases A:Cq.plain c with
  |true=>rfl
  |false=>exact absurd (by rw[aC,a4P,A];rfl) h0
 unfold Cq.head;dsimp only;rw[zD G,zD (a2W h1),zD (a2W h2),zD M,A];rfl
