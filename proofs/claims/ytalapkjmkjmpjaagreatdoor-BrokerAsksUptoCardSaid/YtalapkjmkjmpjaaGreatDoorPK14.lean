/-
  Own texts on the laws of the seat, joined: the logic, and contracts of functions. Conditions: none.
-/
import Derived.Test.YtalapkjmkjmpjaaGreatDoorNmK
import Derived.Test.YtalapkjmkjmpjaaGreatDoorPK13
import Derived.Lib.FieldsU
set_option linter.all false
set_option maxRecDepth 100000
set_option maxHeartbeats 40000000
open Go.Sx.J renaming z -> aA,op -> aJ,ez -> aZ,perm -> bU
open Go.Sx.AX renaming c -> aB,s -> aC,z -> aF
open Go.Sx.Keeps renaming d -> aG,n -> aS,k -> aT
open Ke renaming words -> aH
open Go.Sx.BL renaming z -> aI,s -> aK
open Go.Proofs.Tryz renaming prog -> aN
open Cq renaming skip -> aO,isTerm -> aP,parse -> aX,head -> aY,GV -> bC,Tok -> bF,lex -> bK,tokens -> cO,query -> dB
open Go.Sx.Ej renaming keep -> aQ,PU -> aV,MQ -> bD,round -> bQ,bare -> bY,pan -> dA,leave -> dF
open Ix renaming Rec -> aU
open Bool renaming or_eq_true -> aW
open Go.Sx.JA renaming zt -> bG
open Go.Sx.GU renaming part -> bH,none -> bI
open List renaming dropWhile_sublist -> bJ,drop_length -> bT
open Go.Lib renaming indexAny -> bM
open Go.Sx.SC renaming cell -> bP
open Go.Sx.Cj renaming EX -> bV
open Go.Sx.a5v renaming d1c -> bW
open Go.Sx.yY renaming still -> bZ
open Go.Sx.Pull renaming z -> cZ
open Go.Sx.VQ renaming recover -> dD
open UInt8 renaming ofNat -> dG
section
namespace Go.Proofs.YtalapkjmkjmpjaaGreatDoor
open _root_.Go.Proofs.Tryz
open Go Go.Sx
theorem UJ{α:Type}{x}{R G:List α}:((x::G)++R).Perm (x::(R++G)):=List.Perm.cons _ uQ
theorem b5l{α:Type}{x:α}{R G:List α}:(x::(R++G)).Perm ((x::G)++R):=List.Perm.cons _ uQ
theorem c0y x s tb kd tx pos (h0:0<s.length)(hs:s.length≤1000000000) I:yY aN 114 [x,str s,ptr tb 0] I [(tb,yV 159 [kd,tx,pos])]
 (fun e I' H'=>((bC s 0).2≠0∧e= .returned (i64 (bC s 0).2)∧H'=[(tb,yV 159 [kd,str (bC s 0).1,pos])])∨((bC s 0).2=0∧e= .returned (i64 s.length)∧H'=[(tb,yV 159 [i64 4,tx,pos])])):=by
 refine zN func114 fun w0 _=>?_;refine yU 8 ?_;intro b1 _;refine yU 9 ?_;refine Cj.loop (ι:=Nat×List UInt8×Bool×Gs) (fun j=>Cq.QF s 0 j.1 j.2.1∧AL 0 1 j.2.1.length (DJ j.2.1) j.2.2.2∧(j.2.1=[]→j.2.2.2=none)) (fun j=>s.length+1-j.1) (fun j=>[(1,str s),(2,ptr tb 0),(7,ptr b1 0),(8,i64 (j.1:Int))]) (fun j=>I) (fun j=>(b1,yV 277 [if j.2.2.1 then ptr b1 0 else .pointer none,gV j.2.1.length j.2.2.2])::(tb,yV 159 [kd,tx,pos])::gH 5 (DJ j.2.1) j.2.2.2) (1,[],false,none) ⟨Cq.QF.start s 0 oM,⟨rfl,rfl⟩,fun _=>rfl⟩ rT rfl rfl ?_;rintro⟨k,out,p,g⟩ ⟨G,hg,hn⟩;dsimp only at G hg hn ⊢;have ag:=G.lo;have af:=G.le;have ah:=G.ol;refine yZ ?_ ?_<;>intro ab a3
 ·have N:k<s.length:=oM;obtain⟨c,A⟩:∃c,s[k]?=some c:=⟨_,AA N⟩;refine yU 8 ?_;refine aA (IC AV A) ?_;refine yZ ?_ ?_<;>intro Z a4
  ·have a0:c=34:=OW (d:=34) (BP Z);refine yU 3 ?_;refine bU (UJ (R:=[_])) ?_;refine aJ rfl (zU (H1:=KY _ _ _ _) rfl rfl rfl rfl rfl (bZ (a5s _ out p g hg hn oM _)) ?_ (fun _ _ _ _ h=>by cases h.2.1) (fun _ _ h=>by cases h.2.1));intro _ _ _ _ ac;obtain⟨rfl,h,_,_,rfl⟩:=ac;cases h;refine yU 19 ?_;refine aQ (aG (aT aS)) ?_;refine zM ?_;have he:=G.quote c A a0;rw[he];exact .inl ⟨sI,rfl,rfl⟩
  have a0:c≠34:=LQ (d:=34) (CB Z);refine yZ ?_ ?_<;>intro M a1
  ·have O:c=92:=OW (d:=92) (BP M);refine yZ ?_ ?_<;>intro a5 a2
   ·refine yU 3 ?_;refine Ej.a1C rfl ?_;refine yU 20 ?_;refine aQ (b8F) ?_;refine zM ?_;have he:=(G.fin N c A O oM).past oM;rw[he];exact .inr rT
   have a6:k+1<s.length:=oM;obtain⟨d,Q⟩:∃d,s[k+1]?=some d:=⟨_,AA a6⟩;refine yU 5 ?_;refine aA (IC AV Q) ?_;refine yU 5 ?_;refine bU (UJ (R:=[_])) ?_;refine aJ rfl (zU (H1:=KY _ _ _ _) rfl rfl rfl rfl rfl (bZ (a5t _ out d p g hg oM _)) ?_ (fun _ _ _ _ h=>by cases h.2.1) (fun _ _ h=>by cases h.2.1));intro _ _ _ _ a7;obtain⟨rfl,h,ad,a8,rfl⟩:=a7;cases h;refine bU (b5l (R:=[_])) ?_;refine yU 8 ?_;refine bQ ((k+1+1),out++[d],true,ad) ⟨G.esc N c A O d Q,a8,fun h=>absurd h sI⟩ dO rT rfl rfl
  have O:c≠92:=LQ (d:=92) (CB M);refine yU 4 ?_;refine bU (UJ (R:=[_])) ?_;refine aJ rfl (zU (H1:=KY _ _ _ _) rfl rfl rfl rfl rfl (bZ (a5t _ out c p g hg oM _)) ?_ (fun _ _ _ _ h=>by cases h.2.1) (fun _ _ h=>by cases h.2.1));intro _ _ _ _ a9;obtain⟨rfl,h,ae,aa,rfl⟩:=a9;cases h;refine bU (b5l (R:=[_])) ?_;refine yU 8 ?_;refine bQ ((k+1),out++[c],true,ae) ⟨G.byte N c A a0 O,aa,fun h=>absurd h sI⟩ dO rT rfl rfl
 refine yU 21 ?_;refine aQ (b8F) ?_;refine zM ?_;have he:=G.past oM;rw[he];exact .inr rT
def UO (t:bF) (l:List Value):List Value:=i64 t.kind::str t.text::i64 t.pos::l
theorem scan_ok pb T (s:List UInt8)(i:Nat)(k0 x0 a0:Value)(rs:List Value)(hi:i≤s.length)(hs:s.length≤1000000000) I:yY aN 69 [ptr pb 0] I [(pb,yV T (str s::i64 i::k0::x0::a0::rs))]
 (fun e I' H'=>e= .returned (.tuple #[])∧H'=[(pb,yV T (str s::i64 (bK s i).2::UO (bK s i).1 rs))]):=by
 obtain⟨_,_⟩:=Cq.b0f s i hi;obtain⟨rest,M⟩:∃rest,s.drop (aO s i)=rest:=⟨_,rfl⟩;have al:aO s i+rest.length=s.length:=by rw[←M,wS];omega
 have am:(Lib.trimLeftS (s.drop i) blanks).length≤(s.drop i).length:=(bJ _).length_le;have an:(s.drop i).length≤s.length:=by rw[wS];omega
 refine zN func69 fun w0 _=>?_;refine yU 1 ?_;refine bV [] [(pb,0,str s),(pb,1,i64 i)] 29 kR ?_;refine yU 3 ?_;refine bG 3 rfl (QB rfl rfl GZ (bP 1 rfl)) ?_;refine yU 3 ?_;refine bG 7 rfl (QB rfl rfl DU (bP 0 rfl)) ?_;refine yU 3 ?_;refine bG 11 rfl (QB rfl rfl GZ (bP 1 rfl)) ?_;refine bG 12 rfl (AO (p:=i) (q:=s.length) rfl rfl AV ⟨_,rfl⟩ rfl oM oM) ?_;refine JA.ez 17 (str (s.drop i)) rfl (by rw[tY]) ?_;refine yU 4 ?_;refine bG 17 rfl (QB rfl rfl DU (bP 0 rfl)) ?_;refine yU 3 ?_;refine bG 21 rfl (QB rfl rfl GZ (bP 1 rfl)) ?_;refine bG 22 rfl (AO (p:=i) (q:=s.length) rfl rfl AV ⟨_,rfl⟩ rfl oM oM) ?_;refine JA.ez 27 (str (s.drop i)) rfl (by rw[tY]) ?_;refine zO (b6I _ _) ?_;refine⟨⟨(Le.refl _),HSub.n,(CSub.c 0 rfl rfl (CSub.c 0 rfl rfl CSub.n))⟩,?_⟩;refine yU 3 ?_;refine JA.ez 31 (i64 (aO s i:Nat)) rfl (by rw[c3J s i hi]) ?_;refine yU 2 ?_;refine JA.last 29 kR rfl rfl rfl (CG 0 AZ (aC (aB aF)) aI ?_);refine yU 3 ?_;refine bV [0] [] 10 kR ?_;refine yU 8 ?_;refine bG 8 rfl (AO (p:=aO s i) (q:=s.length) rfl rfl AV ⟨_,rfl⟩ rfl oM oM) ?_;refine JA.ez 42 (str rest) rfl (by rw[tY,M]) ?_;refine JA.fix CP (fun ag=>?_);refine JA.tk 9 rfl ag BI ?_;refine JA.done kR ?_;refine Ej.seq (Cj.sr (aA zS ?_));refine aA ET ?_;refine aA (zY (off':=1) KI AZ) ?_;refine aA (BX GZ (yX.at 0 rfl)) ?_;refine aA (zL (pl:= #[(0,1),(1,1),(2,1)]) rfl rfl zeroValue159 rfl a8w (fun w=>by simp[sizeOf157,AZ,BD]) (bH rfl rfl rfl (aC (aC (aB aF))) bI)) ?_;refine aJ rfl (EN rfl rfl rfl zeroValue159 rfl ?_);intro _ _;refine aJ rfl (CG 0 GI (aB (aB (aB aF))) aI ?_);refine J.ER (aA zS ?_);refine aJ rfl (EK rfl rfl rfl rfl rfl (b6z rest breaks oM dE dE dE _) ?_);refine aA BI ?_;refine J.nss (Cj.block (Cj.sr (aA zS ?_)));refine aA (b2m rfl rfl rfl) ?_;refine aA BI ?_;refine J.ns ?_;refine yZ ?_ ?_<;>intro a6 ad
 ·have he:rest=[]:=BP a6;subst he;refine Cj.region (aA (zY (off':=0) a8w sizeOf157) ?_);refine aJ rfl (CG 0 sizeOf157 (aB aF) aI ?_);refine J.nb (Cj.seq (Cj.sr (aA (zY (off':=0) a8w sizeOf157) ?_)));refine aA (BX isAgg157 (yX.at 0 rfl)) ?_;refine aA (QO rfl rfl rfl) ?_;refine aA zS ?_;refine J.XA 3 85 false _ rfl rfl rfl rfl (CU (zY (off':=0) a8w sizeOf157) ?_);refine J.XA 3 85 false _ rfl rfl rfl rfl (CU (BX isAgg157 (yX.at 0 rfl)) ?_);refine J.XA 3 85 false _ rfl rfl rfl rfl (CU (QO rfl rfl rfl) ?_);refine aA (SN rfl rfl rfl rfl) ?_;refine J.c0 (fun _=>?_);refine Cj.ks (Cj.sr (aA zS ?_));refine aA ET ?_;refine aA (zY (off':=1) KI AZ) ?_;refine aA (BX GZ (yX.at 1 rfl)) ?_;refine aA zS ?_;refine aA (IE rfl rfl rfl) ?_;refine aZ 99 (i64 (0:Nat)) rfl rfl ?_;refine aA (FM rfl rfl rfl (IJ oM)) ?_;refine aA ET ?_;refine aA (zY (off':=1) KI AZ) ?_;refine aJ rfl (CG 1 AZ (aC (aB aF)) (aK aI) ?_);refine J.UM (aA zS ?_);refine aA (DX isAgg159 GI (yX.at 0 rfl)) ?_;refine aA ET ?_;refine aA (zY (off':=2) KI GI) ?_;refine aJ rfl (CG 1 GI (aC (aC (aB (aB (aB aF))))) (aK aI) ?_);refine J.nil ?_;refine aQ (aG (aT aS)) ?_;refine aV rfl rfl ?_;have A:=(zC (fun l=>aY l (aO s i)) M).trans (show aY [] (aO s i)=(⟨0,[],aO s i⟩,0) from rfl);have G:=YA A;rw[G];refine⟨rfl,?_⟩;simp[UO,str]
 obtain⟨c,r,rfl⟩:∃c r,rest=c::r:=by
  cases rest with
  |nil=>cases a6
  |cons c r=>exact⟨c,r,rfl⟩
 have ao:(c::r).length=r.length+1:=rfl;refine Cj.sr (aA zS ?_);refine aA (FB rfl rfl rfl AV oM rfl) ?_;refine yZ ?_ ?_<;>intro a7 ae
 ·have h34:c=34:=OW (d:=34) (BP a7);subst h34;refine yU 9 ?_;refine J.pull cZ ?_;refine aJ rfl (zU (H1:=[_]) rfl rfl rfl rfl rfl (c0y _ (34::r) _ _ _ _ sI oM _) ?_ (fun _ _ _ _ h=>by rcases h with h|h<;>cases h.2.1) (fun _ _ h=>by rcases h with h|h<;>cases h.2.1));intro _ _ _ _ af;rcases af with⟨hq,h1,h2⟩|⟨hq,h1,h2⟩
  ·subst h2;cases h1;have a8:=(a6P r (aO s i)).2 hq;have ap:=b6t (34::r);refine yU 27 ?_;refine aA (IE rfl rfl rfl) ?_;refine aZ 99 (i64 ((bC (34::r) 0).2:Nat)) rfl (by first|(congr 1;done)|(congr 1;rw[zD oM])) ?_;refine aA (FM rfl rfl rfl (IJ oM)) ?_;refine aA ET ?_;refine aA (zY (off':=1) KI AZ) ?_;refine aJ rfl (CG 1 AZ (aC (aB aF)) (aK aI) ?_);refine J.UM (aA zS ?_);refine aA (DX isAgg159 GI (yX.at 0 rfl)) ?_;refine aA ET ?_;refine aA (zY (off':=2) KI GI) ?_;refine aJ rfl (CG 1 GI (aC (aC (aB (aB (aB aF))))) (aK aI) ?_);refine J.nil ?_;refine aQ (aG (aT aS)) ?_;refine aV rfl rfl ?_;have A:=(zC (fun l=>aY l (aO s i)) M).trans a8;have G:=YA A;rw[G];refine⟨rfl,?_⟩;simp[UO,str]
  subst h2;cases h1;have a8:=(a6P r (aO s i)).1 hq;refine yU 27 ?_;refine aA (IE rfl rfl rfl) ?_;refine aZ 99 (i64 ((34::r:List UInt8).length:Nat)) rfl (by first|(congr 1;done)|(congr 1;rw[zD oM])) ?_;refine aA (FM rfl rfl rfl (IJ oM)) ?_;refine aA ET ?_;refine aA (zY (off':=1) KI AZ) ?_;refine aJ rfl (CG 1 AZ (aC (aB aF)) (aK aI) ?_);refine J.UM (aA zS ?_);refine aA (DX isAgg159 GI (yX.at 0 rfl)) ?_;refine aA ET ?_;refine aA (zY (off':=2) KI GI) ?_;refine aJ rfl (CG 1 GI (aC (aC (aB (aB (aB aF))))) (aK aI) ?_);refine J.nil ?_;refine aQ (aG (aT aS)) ?_;refine aV rfl rfl ?_;have A:=(zC (fun l=>aY l (aO s i)) M).trans a8;have G:=YA A;rw[G];refine⟨rfl,?_⟩;simp[UO,str]
 have h34:c≠34:=LQ (d:=34) (CB a7);refine zO (a4G _ _ _) ?_;refine DF ?_ ?_<;>intro a1
 ·have O:[61,61].isPrefixOf (c::r)=true:=a1;have a9:=b8A O;refine yU 27 ?_;refine aA (AO (p:=0) (q:=2) rfl rfl AV rfl ⟨_,rfl⟩ oM (by first|omega|(simp only[wU];omega))) ?_;refine yU 11 ?_;refine aA (IE rfl rfl rfl) ?_;refine aZ 99 (i64 (2:Nat)) rfl rfl ?_;refine aA (FM rfl rfl rfl (IJ oM)) ?_;refine aA ET ?_;refine aA (zY (off':=1) KI AZ) ?_;refine aJ rfl (CG 1 AZ (aC (aB aF)) (aK aI) ?_);refine J.UM (aA zS ?_);refine aA (DX isAgg159 GI (yX.at 0 rfl)) ?_;refine aA ET ?_;refine aA (zY (off':=2) KI GI) ?_;refine aJ rfl (CG 1 GI (aC (aC (aB (aB (aB aF))))) (aK aI) ?_);refine J.nil ?_;refine aQ (aG (aT aS)) ?_;refine aV rfl rfl ?_;have A:=(zC (fun l=>aY l (aO s i)) M).trans (c4C _ O);have G:=YA A;rw[G];refine⟨rfl,?_⟩;simp[UO,str]
 have O:[61,61].isPrefixOf (c::r)=false:=a1;refine zO (a4G _ _ _) ?_;refine DF ?_ ?_<;>intro a2
 ·have N:[62,61].isPrefixOf (c::r)=true:=a2;have a9:=b8A N;refine yU 24 ?_;refine aA (AO (p:=0) (q:=2) rfl rfl AV rfl ⟨_,rfl⟩ oM (by first|omega|(simp only[wU];omega))) ?_;refine yU 11 ?_;refine aA (IE rfl rfl rfl) ?_;refine aZ 99 (i64 (2:Nat)) rfl rfl ?_;refine aA (FM rfl rfl rfl (IJ oM)) ?_;refine aA ET ?_;refine aA (zY (off':=1) KI AZ) ?_;refine aJ rfl (CG 1 AZ (aC (aB aF)) (aK aI) ?_);refine J.UM (aA zS ?_);refine aA (DX isAgg159 GI (yX.at 0 rfl)) ?_;refine aA ET ?_;refine aA (zY (off':=2) KI GI) ?_;refine aJ rfl (CG 1 GI (aC (aC (aB (aB (aB aF))))) (aK aI) ?_);refine J.nil ?_;refine aQ (aG (aT aS)) ?_;refine aV rfl rfl ?_;have A:=(zC (fun l=>aY l (aO s i)) M).trans (c8L _ N);have G:=YA A;rw[G];refine⟨rfl,?_⟩;simp[UO,str]
 have N:[62,61].isPrefixOf (c::r)=false:=a2;refine yU 3 ?_;refine aA (FB rfl rfl rfl AV oM rfl) ?_;refine yZ ?_ ?_<;>intro a3 aa
 ·have Q:c=62:=OW (d:=62) (BP a3);subst Q;have Q:(62:UInt8)=62:=rfl;refine yU 29 ?_;refine aA (IE rfl rfl rfl) ?_;refine aZ 99 (i64 (0:Nat)) rfl (by rw[c8N];rfl) ?_;refine aA (FM rfl rfl rfl (IJ oM)) ?_;refine aA ET ?_;refine aA (zY (off':=1) KI AZ) ?_;refine aJ rfl (CG 1 AZ (aC (aB aF)) (aK aI) ?_);refine J.UM (aA zS ?_);refine aA (DX isAgg159 GI (yX.at 0 rfl)) ?_;refine aA ET ?_;refine aA (zY (off':=2) KI GI) ?_;refine aJ rfl (CG 1 GI (aC (aC (aB (aB (aB aF))))) (aK aI) ?_);refine J.nil ?_;refine aQ (aG (aT aS)) ?_;refine aV rfl rfl ?_;have A:=(zC (fun l=>aY l (aO s i)) M).trans (c4w _ Q N);have G:=YA A;rw[G];refine⟨rfl,?_⟩;simp[UO,str]
 have Q:c≠62:=LQ (d:=62) (CB a3);refine yZ ?_ ?_<;>intro a4 ab
 ·have Z:bM (c::r) breaks=0:=BP a4;refine yU 24 ?_;refine aA (AO (p:=0) (q:=1) rfl rfl AV rfl ⟨_,rfl⟩ oM (by first|omega|(simp only[wU];omega))) ?_;refine yU 11 ?_;refine aA (IE rfl rfl rfl) ?_;refine aZ 99 (i64 (1:Nat)) rfl rfl ?_;refine aA (FM rfl rfl rfl (IJ oM)) ?_;refine aA ET ?_;refine aA (zY (off':=1) KI AZ) ?_;refine aJ rfl (CG 1 AZ (aC (aB aF)) (aK aI) ?_);refine J.UM (aA zS ?_);refine aA (DX isAgg159 GI (yX.at 0 rfl)) ?_;refine aA ET ?_;refine aA (zY (off':=2) KI GI) ?_;refine aJ rfl (CG 1 GI (aC (aC (aB (aB (aB aF))))) (aK aI) ?_);refine J.nil ?_;refine aQ (aG (aT aS)) ?_;refine aV rfl rfl ?_;have A:=(zC (fun l=>aY l (aO s i)) M).trans (c5n _ h34 O N Q Z);have G:=YA A;rw[G];refine⟨rfl,?_⟩;simp[UO,str]
 have Z:bM (c::r) breaks≠0:=CB a4;refine yZ ?_ ?_<;>intro a5 ac
 ·have ah:=DK a5;have hw:(c::r).takeWhile Cq.plain=c::r:=by rcases a5f (c::r)with h|⟨n,h,_⟩;exact h.2;omega
  refine yU 24 ?_;refine aA (AO (p:=0) (q:=(c::r).length) rfl rfl AV rfl ⟨_,rfl⟩ oM (by first|omega|(simp only[wU];omega))) ?_;refine yU 11 ?_;refine aA (IE rfl rfl rfl) ?_;refine aZ 99 (i64 ((c::r).length:Nat)) rfl (by first|(congr 1;done)|(congr 1;rw[zD oM])) ?_;refine aA (FM rfl rfl rfl (IJ oM)) ?_;refine aA ET ?_;refine aA (zY (off':=1) KI AZ) ?_;refine aJ rfl (CG 1 AZ (aC (aB aF)) (aK aI) ?_);refine J.UM (aA zS ?_);refine aA (DX isAgg159 GI (yX.at 0 rfl)) ?_;refine aA ET ?_;refine aA (zY (off':=2) KI GI) ?_;refine aJ rfl (CG 1 GI (aC (aC (aB (aB (aB aF))))) (aK aI) ?_);refine J.nil ?_;refine aQ (aG (aT aS)) ?_;refine aV rfl rfl ?_;have A:=(zC (fun l=>aY l (aO s i)) M).trans (b2s _ h34 O N Q Z);have G:=YA A;rw[G];rw[hw];refine⟨rfl,?_⟩;simp[UO,str]
 have ah:=DN a5;obtain⟨n,hn,ai,hw⟩:∃n:Nat,bM (c::r) breaks=n∧n<(c::r).length∧(c::r).takeWhile Cq.plain=(c::r).take n:=by rcases a5f (c::r)with h|h;omega;exact h
 have aj:=ai;refine yU 20 ?_;refine aZ 91 (i64 (n:Nat)) rfl (by rw[hn]) ?_;refine aA (AO (p:=0) (q:=n) rfl rfl AV rfl ⟨_,rfl⟩ oM (by first|omega|(simp only[wU];omega))) ?_;refine yU 11 ?_;refine aZ 98 (i64 (n:Nat)) rfl (by rw[hn]) ?_;refine aA (IE rfl rfl rfl) ?_;refine aZ 99 (i64 (n:Nat)) rfl (by first|(congr 1;done)|(congr 1;rw[zD oM])) ?_;refine aA (FM rfl rfl rfl (IJ oM)) ?_;refine aA ET ?_;refine aA (zY (off':=1) KI AZ) ?_;refine aJ rfl (CG 1 AZ (aC (aB aF)) (aK aI) ?_);refine J.UM (aA zS ?_);refine aA (DX isAgg159 GI (yX.at 0 rfl)) ?_;refine aA ET ?_;refine aA (zY (off':=2) KI GI) ?_;refine aJ rfl (CG 1 GI (aC (aC (aB (aB (aB aF))))) (aK aI) ?_);refine J.nil ?_;refine aQ (aG (aT aS)) ?_;refine aV rfl rfl ?_;have A:=(zC (fun l=>aY l (aO s i)) M).trans (b2s _ h34 O N Q Z);have G:=YA A;rw[G];rw[hw];refine⟨rfl,?_⟩;simp[UO,str,show min n (r.length+1)=n from sW oM]
end Go.Proofs.YtalapkjmkjmpjaaGreatDoor
end
section
namespace Go.Proofs.YtalapkjmkjmpjaaGreatDoor
open _root_.Go.Proofs.Tryz
open Go Go.Sx
def a5z (p e:Nat):List PanicEntry:=[{ v:= .iface 154 (.agg #[i64 p,i64 e]),recovered:=false }]
def PH (pb:Nat) (s:List UInt8) (i:Nat) (t:bF) (deep:Nat):HL:=[(pb,yV 163 (str s::i64 i::UO t [i64 deep]))]
theorem VZ x t (A:Nat) I:yY aN 71 [x,a7D t,i64 A] I [] (fun e G H'=>e= .panicked (a5z t.pos A)∧H'=[]):=by
 refine zN func71 fun w0 _=>?_;refine yU 3 ?_;intro _ _;refine J.UM (aA (zY (off':=2) a8w AZ) ?_);refine aA (BX GZ (yX.at 0 rfl)) ?_;refine aA zS ?_;refine aA (zL (pl:= #[(0,1),(1,1)]) rfl rfl zeroValue154 rfl underlying154 (fun w=>by simp[AZ,MW]) (bH rfl rfl rfl (aB aF) (bH rfl rfl rfl (aC (aB aF)) bI))) ?_;refine aA (a4S rfl rfl underlying154 rfl) ?_;refine aJ rfl (c4K rfl rfl ?_)
 skip
 refine bY ?_;refine dA rfl ?_;exact rT
theorem d0q A s i t deep y I:yY aN 267 [ptr A 0,str y] I (PH A s i t deep) (fun e M H'=>e= .returned (.bool (t.kind == 1 && t.text == y))∧H'=PH A s i t deep):=by
 refine zN func267 fun w0 _=>?_;refine EH ?_ ?_<;>intro G
 ·refine zM ?_;refine⟨?_,rfl⟩
  simp_all[nb1]
 refine zM ?_;refine⟨?_,rfl⟩
 simp_all[nb1]
theorem a4z x t (hx:t.text.length≤1000000000) I (ht:Tabs I):yY aN 196 [x,a7D t] I [] (fun e I' H'=>if aP t then e= .returned (str t.text)∧H'=[]else e= .panicked (a5z t.pos 40)∧H'=[]):=by
 refine zN func196 fun w0 _=>?_;refine yU 3 ?_;intro _ _;refine EH ?_ ?_<;>intro O
 ·have a0:t.kind≠3:=by have:=bne_iff_ne.1 O;omega
  refine EH ?_ ?_<;>intro N
  ·have a1:t.kind≠2:=by have:=bne_iff_ne.1 N;omega
   have A:aP t=false:=by simp[aP,a1,a0]
   refine yU 10 ?_;refine aJ rfl (zU (H1:=[]) rfl rfl rfl rfl rfl (VZ _ _ _ _) (fun _ _ _ _ h=>by cases h.1) ?_ (fun _ _ h=>by cases h.1));intro _ _ _ _ a4;obtain⟨h,rfl⟩:=a4;cases h;refine bD ?_;refine bY ?_;refine dA rfl ?_;exact(zD (by rw[A];decide)).mpr rT
  have a1:t.kind=2:=by have:=EC N;omega
  refine yU 1 ?_;refine J.XA 8 13 false _ rfl rfl rfl N (EK rfl rfl rfl rfl rfl (XH _ oM _ ht) ?_);refine yZ ?_ ?_<;>intro G Q
  ·have A:aP t=false:=by have:=DK G;simp[aP];omega
   refine yU 3 ?_;refine aJ rfl (zU (H1:=[]) rfl rfl rfl rfl rfl (VZ _ _ _ _) (fun _ _ _ _ h=>by cases h.1) ?_ (fun _ _ h=>by cases h.1));intro _ _ _ _ a2;obtain⟨h,rfl⟩:=a2;cases h;refine bD ?_;refine bY ?_;refine dA rfl ?_;exact(zD (by rw[A];decide)).mpr rT
  have A:aP t=true:=by have:=DN G;simp[aP];omega
  refine zV ?_;exact(zF A).mpr rT
 have a0:t.kind=3:=by have:=EC O;omega
 refine yU 6 ?_;refine J.XA 8 13 false _ rfl rfl rfl rfl (EK rfl rfl rfl rfl rfl (XH _ oM _ ht) ?_);refine yZ ?_ ?_<;>intro M Z
 ·have A:aP t=false:=by have:=DK M;simp[aP];omega
  refine yU 3 ?_;refine aJ rfl (zU (H1:=[]) rfl rfl rfl rfl rfl (VZ _ _ _ _) (fun _ _ _ _ h=>by cases h.1) ?_ (fun _ _ h=>by cases h.1));intro _ _ _ _ a3;obtain⟨h,rfl⟩:=a3;cases h;refine bD ?_;refine bY ?_;refine dA rfl ?_;exact(zD (by rw[A];decide)).mpr rT
 have A:aP t=true:=by have:=DN M;simp[aP];omega
 refine zV ?_;exact(zF A).mpr rT
end Go.Proofs.YtalapkjmkjmpjaaGreatDoor
end
namespace Cq
theorem c3f rest j:(head rest j).1.text.length≤rest.length:=by
 cases rest with
 |nil=>simp[head]
 |cons c r=>
  unfold head
  by_cases h34:c=34
  ·simp only[h34,if_true];cases hq:quoted r with
   |none=>simp
   |some q=>have:=XP _ r q (tH _) hq;simp;omega
  simp only[h34,if_false]
  split
  ·rename_i h1
   have:r≠[]:=fun A=>by simp[A]at h1
   have:=wK.2 this;simp;omega
  split
  ·rename_i h1
   have:r≠[]:=fun A=>by simp[A]at h1
   have:=wK.2 this;simp;omega
  split
  ·simp
  split
  ·exact(List.takeWhile_sublist _).length_le
  simp
theorem SH s:∀f i,i≤s.length→s.length-i<f→YG (toks s f i)∧(toks s f i).length≤s.length+1-i∧∀t∈toks s f i,t.text.length≤s.length
 |0,i,_,h=>oM
 |f+1,i,hi,hf=>by
  have A:(lex s i).1.text.length≤s.length:=by
   have:=c3f (s.drop (skip s i)) (skip s i);simp only[lex];simp at this;omega
  simp only[toks];cases ho:over (lex s i).1 with
  |true=>exact⟨⟨[],_,rfl,ho⟩,by simp;omega,by simpa using A⟩
  |false=>
   have G:=ZE s i hi ho;obtain⟨⟨l,x,h1,h2⟩,h3,M⟩:=SH s f _ G.2 oM;simp only[yL,if_false];exact⟨⟨_::l,x,by rw[h1];rfl,h2⟩,by simp;omega,fun t h=>(vX.1 h).elim (fun h=>h▸A) (M t)⟩
end Cq
namespace Cq
def UN (s:List UInt8) (i:Nat) (t:Tok) (ts:List Tok):Prop:=∃j,j≤s.length∧lex s j=(t,i)∧a4v s j=ts
theorem UN.start s:UN s (lex s 0).2 (lex s 0).1 (tokens s):=⟨0,sQ _,rfl,rfl⟩
section
variable {s:List UInt8} {i:Nat} {t:Tok} {ts:List Tok}
theorem UN.good(h:UN s i t ts):YG ts:=by
 obtain⟨j,A,_,rfl⟩:=h;exact(SH s _ j A oM).1
theorem UN.txt(h:UN s i t ts):t.text.length≤s.length:=by
 obtain⟨j,A,h1,rfl⟩:=h;refine(SH s (s.length+1-j) j A oM).2.2 t ?_;show t∈a4v s j;rw[VY s j A,h1]
 split<;>simp
theorem UN.cons(h:UN s i t ts):∃r,ts=t::r:=by
 obtain⟨j,A,h1,rfl⟩:=h;rw[VY s j A,h1]
 split
 ·exact⟨_,rfl⟩
 exact⟨_,rfl⟩
theorem UN.next{r}(h:UN s i t (t::r))(G:over t=false):i≤s.length∧UN s (lex s i).2 (lex s i).1 r:=by
 obtain⟨j,M,h1,h2⟩:=h;have A:=ZE s j M (by rw[h1];exact G);rw[h1]at A;rw[VY s j M,h1]at h2;simp only[G,yL,if_false,List.cons.injEq,true_and]at h2;exact⟨A.2,i,A.2,rfl,h2⟩
theorem UN.len(h:UN s i t ts):ts.length≤s.length+1:=by
 obtain⟨j,A,_,rfl⟩:=h;have:=(SH s (s.length+1-j) j A oM).2.1;show(toks s (s.length+1-j) j).length≤_;omega
end
end Cq
section
namespace Go.Proofs.YtalapkjmkjmpjaaGreatDoor
open _root_.Go.Proofs.Tryz
open Go Go.Sx
def UU (pb:Nat) (s:List UInt8) (deep:Nat) (res:Cq.Res):Ending→Heap→HL→Prop:=fun e I' H'=>
 match res with
 | .ok q ts2=>∃v i2 t2,e= .returned v∧QV I' q v∧H'=PH pb s i2 t2 deep∧Cq.UN s i2 t2 ts2
 | .err p er=>e= .panicked (a5z p er)∧H'=[]
def b3K (f:Nat):Prop:=∀(pb i deep:Nat) (s:List UInt8) (t:bF) (ts:List bF) (I:Heap),Cq.UN s i t ts→Tabs I→s.length≤1000000000→2*ts.length+1≤f→deep≤50→
 yY aN 115 [ptr pb 0] I (PH pb s i t deep) (UU pb s deep (Cq.clause f deep ts))
def a8L (f:Nat):Prop:=∀(pb i deep:Nat) (s:List UInt8) (t:bF) (ts:List bF) (I:Heap),Cq.UN s i t ts→Tabs I→s.length≤1000000000→2*ts.length+2≤f→deep≤50→
 yY aN 70 [ptr pb 0] I (PH pb s i t deep) (UU pb s deep (dB f deep ts))
def c1g (f:Nat):Prop:=∀(pb i deep:Nat) (s:List UInt8) (t:bF) (r:List bF) (I:Heap),Cq.UN s i t (t::r)→Tabs I→s.length≤1000000000→2*r.length+2≤f→deep≤50→Cq.lp t=true→
 yY aN 195 [ptr pb 0] I (PH pb s i t deep) (UU pb s deep (Cq.clause (f+1) deep (t::r)))
theorem c0g (f : Nat) (ih : a8L f) : c1g f := by
 intro pb i deep s t r I hcur ht hs hf hd hlp
 obtain ⟨hi, hcur2⟩ := hcur.next (Cq.a3b hlp)
 refine zN func195 fun w0 hw0 => ?_
 refine yU 3 ?_
 intro b1 hb1
 refine yU 9 ?_
 refine J.ez 8 (i64 ((deep + 1 : Nat) : Int)) rfl (by simp) ?_
 refine yZ (fun hc2 hc2p => ?_) (fun hc2 hc2p => ?_)
 ·refine yU 7 ?_
  refine J.op rfl (zU (H1 := []) rfl rfl rfl rfl rfl (VZ _ _ _ _) (fun _ _ _ _ h => by cases h.1) ?_ (fun _ _ h => by cases h.1))
  intro v3 I4 H5 hle6 hp7
  obtain ⟨h, rfl⟩ := hp7; cases h
  refine Ej.MQ ?_
  refine Ej.bare ?_
  refine Ej.pan rfl ?_
  show UU pb s deep (Cq.clause (f + 1) deep (t :: r)) _ _ _
  have hev : Cq.clause (f + 1) deep (t :: r) = .err t.pos 41 := by simp [Cq.clause, hlp]; omega
  rw [hev]
  exact ⟨rfl, rfl⟩
 refine yU 7 ?_
 refine J.pull (Pull.s Pull.z) ?_
 refine zX (scan_ok _ _ s _ _ _ _ _ hi hs _) ?_
 intro v8 I9 H10 hle11 hp12
 have ht := ht.mono hle11
 obtain ⟨h, rfl⟩ := hp12; cases h
 refine yU 5 ?_
 rcases hq : Cq.query f (deep + 1) r with ⟨q, ts2⟩ | ⟨pe, ee⟩
 ·skip
  refine J.pull Pull.z ?_
  refine zX ((by have h := ih pb (Cq.lex s i).2 (deep + 1) s (Cq.lex s i).1 r _ hcur2 ht hs hf (by omega); rw [hq] at h; exact h)) ?_
  intro v13 I14 H15 hle16 hp17
  obtain ⟨vq, i2, t2, h, ⟨pq, cq, rfl, hps⟩, rfl, hcur3⟩ := hp17; cases h
  obtain ⟨r2, rfl⟩ := hcur3.cons
  refine yU 1 ?_
  intro b18 hb18
  refine yU 9 ?_
  refine J.pull (Pull.s Pull.z) ?_
  refine zX (d0q pb s i2 t2 (deep + 1) [41] _) ?_
  intro v19 I20 H21 hle22 hp23
  have hps := hps.mono hle22
  obtain ⟨h, rfl⟩ := hp23; cases h
  refine DF (fun hc24 => ?_) (fun hc24 => ?_)
  ·have hrp : Cq.rp t2 = false := by have h := hc24; rw [Bool.not_eq_true'] at h; exact h
   refine yU 7 ?_
   refine J.op rfl (zU (H1 := []) rfl rfl rfl rfl rfl (VZ _ _ _ _) (fun _ _ _ _ h => by cases h.1) ?_ (fun _ _ h => by cases h.1))
   intro v25 I26 H27 hle28 hp29
   obtain ⟨h, rfl⟩ := hp29; cases h
   refine Ej.MQ ?_
   refine Ej.bare ?_
   refine Ej.pan rfl ?_
   show UU pb s deep (Cq.clause (f + 1) deep (t :: r)) _ _ _
   have hev : Cq.clause (f + 1) deep (t :: r) = .err t2.pos 40 := by simp only [Cq.clause, hlp, if_true, hq, hrp]; rw [if_neg (by omega)]; rfl
   rw [hev]
   exact ⟨rfl, rfl⟩
  have hrp : Cq.rp t2 = true := by have h := hc24; simpa [Cq.rp] using h
  obtain ⟨hi2, hcur4⟩ := hcur3.next (Cq.b8k hrp)
  refine yU 9 ?_
  refine J.ez 45 (i64 (deep : Int)) rfl (by congr 1; omega) ?_
  refine yU 10 ?_
  refine J.pull Pull.z ?_
  refine zX (scan_ok _ _ s _ _ _ _ _ hi2 hs _) ?_
  intro v30 I31 H32 hle33 hp34
  have hps := hps.mono hle33
  obtain ⟨h, rfl⟩ := hp34; cases h
  refine J.ER (J.z (DX CW AU (yX.at 1 rfl)) ?_)
  refine J.op rfl (CG 2 AU (AX.c (AX.c (AX.c (AX.c (AX.c AX.z))))) (BL.s (BL.s BL.z)) ?_)
  refine J.ns (Cj.ret ?_)
  refine Ej.SG (Keeps.k (Keeps.d (Keeps.d Keeps.n))) rfl rfl rfl (yX.at 2 rfl) CW AU rfl ?_
  show UU pb s deep (Cq.clause (f + 1) deep (t :: r)) _ _ _
  have hev : Cq.clause (f + 1) deep (t :: r) = .ok q r2 := by simp only [Cq.clause, hlp, if_true, hq, hrp]; rw [if_neg (by omega)]
  rw [hev]
  exact ⟨_, _, _, rfl, ⟨pq, cq, rfl, hps⟩, rfl, hcur4⟩
 skip
 refine J.pull Pull.z ?_
 refine J.op rfl (zU (H1 := [_]) rfl rfl rfl rfl rfl ((by have h := ih pb (Cq.lex s i).2 (deep + 1) s (Cq.lex s i).1 r _ hcur2 ht hs hf (by omega); rw [hq] at h; exact h)) (fun _ _ _ _ h => by cases h.1) ?_ (fun _ _ h => by cases h.1))
 intro v35 I36 H37 hle38 hp39
 obtain ⟨h, rfl⟩ := hp39; cases h
 refine Ej.MQ ?_
 refine Ej.bare ?_
 refine Ej.pan rfl ?_
 show UU pb s deep (Cq.clause (f + 1) deep (t :: r)) _ _ _
 have hev : Cq.clause (f + 1) deep (t :: r) = .err pe ee := by simp only [Cq.clause, hlp, if_true, hq]; rw [if_neg (by omega)]
 rw [hev]
 exact ⟨rfl, rfl⟩
theorem b4U (f : Nat) (ih : c1g f) : b3K (f + 1) := by
 intro pb i deep s t ts I hcur ht hs hf hd
 obtain ⟨r, rfl⟩ := hcur.cons
 have htx := hcur.txt
 refine zN func115 fun w0 hw0 => ?_
 refine yU 3 ?_
 intro b1 hb1
 refine yU 4 ?_
 refine J.op rfl (BG rfl rfl rfl ?_)
 intro b2 hb2
 refine yU 2 ?_
 refine J.op rfl (b9f 0 rfl rfl rfl rfl rfl underlying295 AV rfl BL.z ?_)
 refine yU 12 ?_
 intro b3 hb3
 refine J.op rfl (CG 0 GI (AX.c (AX.c (AX.c AX.z))) BL.z ?_)
 refine J.nss ?_
 refine Cj.join (ι := Value × Bool) (fun y => (y.2 = true → t.text = [40] ∧ y.1 = .func (.func 195) #[ptr pb 0] #[]) ∧ (y.2 = false → t.text ≠ [40])) (fun y => [(0, ptr pb 0), (2, ptr b1 0), (4, ptr b3 0), (5, y.1), (6, .bool y.2)]) (fun y => I) (fun y => [(b3, yV 159 (UO t [])), (b1, yV 73 (BR Cq.zero none 0)), (pb, yV 163 (str s :: i64 i :: UO t [i64 deep]))]) ?_ (fun hcut => ?_)
 ·rintro ⟨v5, z⟩ ⟨hz1, hz2⟩
  dsimp only at hz1 hz2 ⊢
  refine Cj.join (ι := Bool) (fun y => (y = true → t.kind = 1 ∧ t.text = [40] ∧ v5 = .func (.func 195) #[ptr pb 0] #[]) ∧ (y = false → Cq.lp t = false)) (fun y => [(0, ptr pb 0), (2, ptr b1 0), (4, ptr b3 0), (5, v5), (29, .bool y)]) (fun y => I) (fun y => [(b3, yV 159 (UO t [])), (b1, yV 73 (BR Cq.zero none 0)), (pb, yV 163 (str s :: i64 i :: UO t [i64 deep]))]) ?_ (fun hcut => ?_)
  ·rintro y ⟨hy1, hy2⟩
   refine DF (fun hc4 => ?_) (fun hc4 => ?_)
   ·obtain ⟨hk1, htx0, rfl⟩ := hy1 hc4
    have hlp : Cq.lp t = true := by simp [Cq.lp, hk1, htx0]
    refine yU 3 ?_
    rcases hq : Cq.clause (f + 1) deep (t :: r) with ⟨q, ts2⟩ | ⟨pe, ee⟩
    ·skip
     refine J.pull (Pull.s (Pull.s Pull.z)) ?_
     refine zX ((by have h := ih pb i deep s t r _ hcur ht hs (by simp at hf; omega) hd hlp; rw [hq] at h; exact h)) ?_
     intro v5 I6 H7 hle8 hp9
     obtain ⟨vq, i2, t2, h, ⟨pq, cq, rfl, hps⟩, rfl, hcur3⟩ := hp9; cases h
     refine yU 5 ?_
     refine Ej.SG (Keeps.k (Keeps.d (Keeps.d Keeps.n))) rfl rfl rfl (yX.at 2 rfl) CW AU rfl ?_
     exact ⟨_, _, _, rfl, ⟨pq, cq, rfl, hps⟩, rfl, hcur3⟩
    skip
    refine J.pull (Pull.s (Pull.s Pull.z)) ?_
    refine J.op rfl (zU (H1 := [_]) rfl rfl rfl rfl rfl ((by have h := ih pb i deep s t r _ hcur ht hs (by simp at hf; omega) hd hlp; rw [hq] at h; exact h)) (fun _ _ _ _ h => by cases h.1) ?_ (fun _ _ h => by cases h.1))
    intro v10 I11 H12 hle13 hp14
    obtain ⟨h, rfl⟩ := hp14; cases h
    refine Ej.MQ ?_
    refine Ej.MQ ?_
    refine Ej.bare ?_
    refine Ej.pan rfl ?_
    exact ⟨rfl, rfl⟩
   have hlp := hy2 hc4
   refine yU 6 ?_
   rcases hT : Cq.isTerm t with _ | _
   ·skip
    refine J.op rfl (zU (H1 := []) rfl rfl rfl rfl rfl ((by have h := a4z (ptr pb 0) t (by omega) _ ht; rw [hT] at h; exact h)) (fun _ _ _ _ h => by cases h.1) ?_ (fun _ _ h => by cases h.1))
    intro v15 I16 H17 hle18 hp19
    obtain ⟨h, rfl⟩ := hp19; cases h
    refine Ej.MQ ?_
    refine Ej.bare ?_
    refine Ej.pan rfl ?_
    show UU pb s deep (Cq.clause (f + 1) deep (t :: r)) _ _ _
    have hev : Cq.clause (f + 1) deep (t :: r) = .err t.pos 40 := by simp [Cq.clause, hlp, hT]
    rw [hev]
    exact ⟨rfl, rfl⟩
   obtain ⟨hi, hcur2⟩ := hcur.next (Cq.TG hT)
   obtain ⟨r2, rfl⟩ := hcur2.cons
   have htx2 := hcur2.txt
   refine zX ((by have h := a4z (ptr pb 0) t (by omega) _ ht; rw [hT] at h; exact h)) ?_
   intro v20 I21 H22 hle23 hp24
   have ht := ht.mono hle23
   obtain ⟨h, rfl⟩ := hp24; cases h
   refine J.z (zL (pl := #[(0, 1), (1, 1), (2, 1), (3, 1), (4, 1)]) rfl rfl JM rfl OH (fun w => by simp [AZ, VU, BD]) (GU.part rfl rfl rfl (AX.c AX.z) (GU.part rfl rfl rfl (AX.s (AX.c AX.z)) (GU.part rfl rfl rfl (AX.s (AX.s (AX.c AX.z))) (GU.part rfl rfl rfl (AX.s (AX.s (AX.s (AX.c AX.z)))) GU.none))))) ?_
   refine J.op rfl (EN rfl rfl rfl JM rfl ?_)
   intro b25 hb25
   refine J.op rfl (CG 0 AU (AX.c (AX.c (AX.c (AX.c (AX.c AX.z))))) BL.z ?_)
   refine J.ER (J.z zS ?_)
   refine J.z ET ?_
   refine J.z (zY (off' := 0) underlying163 sizeOf161) ?_
   refine J.pull (Pull.s (Pull.s (Pull.s Pull.z))) ?_
   refine zX (scan_ok _ _ s _ _ _ _ _ hi hs _) ?_
   intro v26 I27 H28 hle29 hp30
   have ht := ht.mono hle29
   obtain ⟨h, rfl⟩ := hp30; cases h
   refine EH (fun hg31 => ?_) (fun hg31 => ?_)
   ·have hk3 : t.kind ≠ 3 := by have := bne_iff_ne.1 hg31; omega
    refine J.sk 3 43 44 hg31 ?_
    refine J.sk 3 43 45 hg31 ?_
    refine J.sk 3 43 46 hg31 ?_
    refine J.sk 3 43 47 hg31 ?_
    refine J.sk 3 43 48 hg31 ?_
    refine J.sk 3 43 49 hg31 ?_
    refine J.sk 3 43 50 hg31 ?_
    refine J.z (MR rfl rfl hg31 rfl) ?_
    refine J.c1 (fun hc32 => ?_)
    refine Cj.sr (J.z (DX CW AU (yX.at 1 rfl)) ?_)
    refine J.op rfl (CG 3 AU (AX.c (AX.c (AX.c (AX.c (AX.c AX.z))))) (BL.s (BL.s (BL.s BL.z))) ?_)
    refine J.ns (Cj.rs ?_)
    refine Ej.SG (Keeps.k (Keeps.d (Keeps.d (Keeps.d Keeps.n)))) rfl rfl rfl (yX.at 3 rfl) CW AU rfl ?_
    show UU pb s deep (Cq.clause (f + 1) deep (t :: (Cq.lex s i).1 :: r2)) _ _ _
    have hev : Cq.clause (f + 1) deep (t :: (Cq.lex s i).1 :: r2) = .ok ⟨1, [97, 110, 121], [61], t.text, .nil⟩ ((Cq.lex s i).1 :: r2) := by simp [Cq.clause, hlp, hT, hk3]
    rw [hev]
    exact ⟨_, _, _, rfl, ⟨none, 0, rfl, .inl rfl⟩, rfl, hcur2⟩
   have hk3 : t.kind = 3 := by have := EC hg31; omega
   refine zO (b4Q (Cq.lex s i).1 (by omega) _ ht) ?_
   refine DF (fun hc33 => ?_) (fun hc33 => ?_)
   ·have hrel : Cq.relation (Cq.lex s i).1 = false := by have h := hc33; rw [Bool.not_eq_true'] at h; exact h
    refine Cj.sr (J.z (DX CW AU (yX.at 1 rfl)) ?_)
    refine J.op rfl (CG 3 AU (AX.c (AX.c (AX.c (AX.c (AX.c AX.z))))) (BL.s (BL.s (BL.s BL.z))) ?_)
    refine J.ns (Cj.rs ?_)
    refine Ej.SG (Keeps.k (Keeps.d (Keeps.d (Keeps.d Keeps.n)))) rfl rfl rfl (yX.at 3 rfl) CW AU rfl ?_
    show UU pb s deep (Cq.clause (f + 1) deep (t :: (Cq.lex s i).1 :: r2)) _ _ _
    have hev : Cq.clause (f + 1) deep (t :: (Cq.lex s i).1 :: r2) = .ok ⟨1, [97, 110, 121], [61], t.text, .nil⟩ ((Cq.lex s i).1 :: r2) := by simp [Cq.clause, hlp, hT, hk3, hrel]
    rw [hev]
    exact ⟨_, _, _, rfl, ⟨none, 0, rfl, .inl rfl⟩, rfl, hcur2⟩
   have hrel : Cq.relation (Cq.lex s i).1 = true := by have h := hc33; rw [Bool.not_eq_false'] at h; exact h
   obtain ⟨hi2, hcur3⟩ := hcur2.next (Cq.a1z hrel)
   obtain ⟨r3, rfl⟩ := hcur3.cons
   have htx3 := hcur3.txt
   refine yU 3 ?_
   refine Cj.EX [0, 2, 3] [] 14 (by kernel_rfl) ?_
   refine zO (a0j t.text (by omega) _ ht) ?_
   refine zO (a0j (Cq.lex s i).1.text (by omega) _ ht) ?_
   refine yU 10 ?_
   refine Cj.EX [0, 1, 2, 3] [] 5 (by kernel_rfl) ?_
   refine zX (b4B _) ?_
   intro v38 I39 H40 hle41 hp42
   have ht := ht.mono hle41
   obtain ⟨⟨v38x, hv38, hsv38⟩, rfl⟩ := hp42; cases hv38
   refine zO (a1M Cq.indexes _ _ (by decide) _ hsv38) ?_
   refine yU 1 ?_
   refine JA.ez 68 (.bool (Cq.indexes.contains (Cq.small t.text))) rfl (by rw [(a0h (l := Cq.indexes) (by decide) t.text).1]) ?_
   refine DF (fun hc44 => ?_) (fun hc44 => ?_)
   ·have hix : ¬ Cq.small t.text ∈ Cq.indexes := by have h := hc44; rw [Bool.not_eq_true'] at h; simpa using h
    refine yU 3 ?_
    refine J.op rfl (zU (H1 := []) rfl rfl rfl rfl rfl (VZ _ _ _ _) (fun _ _ _ _ h => by cases h.1) ?_ (fun _ _ h => by cases h.1))
    intro v45 I46 H47 hle48 hp49
    obtain ⟨h, rfl⟩ := hp49; cases h
    refine Ej.MQ ?_
    refine Ej.bare ?_
    refine Ej.pan rfl ?_
    show UU pb s deep (Cq.clause (f + 1) deep (t :: (Cq.lex s i).1 :: (Cq.lex s (Cq.lex s i).2).1 :: r3)) _ _ _
    have hev : Cq.clause (f + 1) deep (t :: (Cq.lex s i).1 :: (Cq.lex s (Cq.lex s i).2).1 :: r3) = .err t.pos 42 := by simp [Cq.clause, hlp, hT, hk3, hrel, hix]
    rw [hev]
    exact ⟨rfl, rfl⟩
   have hix0 : Cq.indexes.contains (Cq.small t.text) = true := by have h := hc44; rw [Bool.not_eq_false'] at h; exact h
   have hix : Cq.small t.text ∈ Cq.indexes := by simpa using hix0
   have hs1 := (a0h (l := Cq.indexes) (by decide) t.text).2 hix0
   have hs2 := (a0h (l := Cq.relations) (by decide) (Cq.lex s i).1.text).2 (by have h := hrel; simp only [Cq.relation, Bool.and_eq_true] at h; exact h.1)
   refine yU 7 ?_
   refine J.pull Pull.z ?_
   refine zX (scan_ok _ _ s _ _ _ _ _ hi2 hs _) ?_
   intro v50 I51 H52 hle53 hp54
   have ht := ht.mono hle53
   obtain ⟨h, rfl⟩ := hp54; cases h
   refine yU 10 ?_
   rcases hT3 : Cq.isTerm (Cq.lex s (Cq.lex s i).2).1 with _ | _
   ·skip
    refine J.op rfl (zU (H1 := []) rfl rfl rfl rfl rfl ((by have h := a4z (ptr pb 0) (Cq.lex s (Cq.lex s i).2).1 (by omega) _ ht; rw [hT3] at h; exact h)) (fun _ _ _ _ h => by cases h.1) ?_ (fun _ _ h => by cases h.1))
    intro v55 I56 H57 hle58 hp59
    obtain ⟨h, rfl⟩ := hp59; cases h
    refine Ej.MQ ?_
    refine Ej.bare ?_
    refine Ej.pan rfl ?_
    show UU pb s deep (Cq.clause (f + 1) deep (t :: (Cq.lex s i).1 :: (Cq.lex s (Cq.lex s i).2).1 :: r3)) _ _ _
    have hev : Cq.clause (f + 1) deep (t :: (Cq.lex s i).1 :: (Cq.lex s (Cq.lex s i).2).1 :: r3) = .err (Cq.lex s (Cq.lex s i).2).1.pos 40 := by simp [Cq.clause, hlp, hT, hk3, hrel, hix, hT3]
    rw [hev]
    exact ⟨rfl, rfl⟩
   obtain ⟨hi3, hcur4⟩ := hcur3.next (Cq.TG hT3)
   refine zX ((by have h := a4z (ptr pb 0) (Cq.lex s (Cq.lex s i).2).1 (by omega) _ ht; rw [hT3] at h; exact h)) ?_
   intro v60 I61 H62 hle63 hp64
   obtain ⟨h, rfl⟩ := hp64; cases h
   refine yU 9 ?_
   refine J.pull Pull.z ?_
   refine zX (scan_ok _ _ s _ _ _ _ _ hi3 hs _) ?_
   intro v65 I66 H67 hle68 hp69
   obtain ⟨h, rfl⟩ := hp69; cases h
   refine J.ER (J.z (DX CW AU (yX.at 1 rfl)) ?_)
   refine J.op rfl (CG 3 AU (AX.c (AX.c (AX.c (AX.c (AX.c AX.z))))) (BL.s (BL.s (BL.s BL.z))) ?_)
   refine J.ns (Cj.ret ?_)
   refine Ej.SG (Keeps.k (Keeps.d (Keeps.d (Keeps.d Keeps.n)))) rfl rfl rfl (yX.at 3 rfl) CW AU rfl ?_
   show UU pb s deep (Cq.clause (f + 1) deep (t :: (Cq.lex s i).1 :: (Cq.lex s (Cq.lex s i).2).1 :: r3)) _ _ _
   have hev : Cq.clause (f + 1) deep (t :: (Cq.lex s i).1 :: (Cq.lex s (Cq.lex s i).2).1 :: r3) = .ok ⟨1, Cq.small t.text, Cq.small (Cq.lex s i).1.text, (Cq.lex s (Cq.lex s i).2).1.text, .nil⟩ r3 := by simp [Cq.clause, hlp, hT, hk3, hrel, hix, hT3]
   rw [hev]
   exact ⟨_, _, _, rfl, ⟨none, 0, by rw [hs1, hs2]; rfl, .inl rfl⟩, rfl, hcur4⟩
  refine EH (fun hg70 => ?_) (fun hg70 => ?_)
  ·refine yU 5 ?_
   exact hcut (((t.kind : Int)) == 1) _ _ _ ⟨fun h => ⟨by have := BP h; omega, hz1 hg70⟩, fun h => by have := CB h; simp [Cq.lp]; omega⟩ ⟨rfl, rfl, rfl, rfl, rfl, trivial⟩ rfl rfl
  refine yU 5 ?_
  exact hcut false _ _ _ ⟨fun h => (by cases h), fun _ => by simp [Cq.lp, hz2 hg70]⟩ ⟨rfl, rfl, rfl, rfl, rfl, trivial⟩ rfl rfl
 refine yU 4 ?_
 by_cases htx0 : t.text = [40]
 ·skip
  refine J.z (b5b rfl rfl (congrArg (fun z => some (str z)) htx0) underlying295 AV (yX.at 1 rfl)) ?_
  refine yU 6 ?_
  refine Ej.keep (Keeps.k (Keeps.d (Keeps.k (Keeps.k Keeps.n)))) ?_
  exact hcut (_, true) _ _ _ ⟨fun _ => ⟨htx0, rfl⟩, fun h => (by cases h)⟩ ⟨rfl, rfl, rfl, rfl, rfl, trivial⟩ rfl rfl
 have hlp : Cq.lp t = false := by simp [Cq.lp, htx0]
 refine J.z (b3a htx0 rfl rfl rfl underlying295 AV zeroValue125 (yX.at 1 rfl)) ?_
 refine yU 6 ?_
 refine Ej.keep (Keeps.k (Keeps.d (Keeps.k (Keeps.k Keeps.n)))) ?_
 exact hcut (_, false) _ _ _ ⟨fun h => (by cases h), fun _ => htx0⟩ ⟨rfl, rfl, rfl, rfl, rfl, trivial⟩ rfl rfl
structure CSt where
  f:Nat
  q:Cq.Qn
  p:Option Addr
  c:Nat
  i:Nat
  t:Cq.Tok
  ts:List Cq.Tok
  I:Heap
def d1B (s:List UInt8) (f deep:Nat) (ts:List bF) (j:CSt):Prop:=
 Cq.UN s j.i j.t j.ts∧dB (f+1) deep ts=Cq.more j.f deep j.q j.ts∧PS j.I j.q.ps j.p∧2*j.ts.length+1≤j.f∧j.f≤f∧Tabs j.I
theorem b7a (f : Nat) (ih : ∀ g, g ≤ f → b3K g) : a8L (f + 1) := by
 intro pb i deep s t ts I hcur ht hs hf hd
 refine zN func70 fun w0 hw0 => ?_
 refine yU 3 ?_
 intro b1 hb1
 refine yU 5 ?_
 rcases hq : Cq.clause f deep ts with ⟨q, ts2⟩ | ⟨pe, ee⟩
 ·skip
  refine J.pull (Pull.s Pull.z) ?_
  refine zX ((by have h := ih f (Nat.le_refl _) pb i deep s t ts _ hcur ht hs (by omega) hd; rw [hq] at h; exact h)) ?_
  intro v2 I3 H4 hle5 hp6
  have ht := ht.mono hle5
  obtain ⟨vq, i2, t2, h, ⟨pq, cq, rfl, hps⟩, rfl, hcur2⟩ := hp6; cases h
  refine yU 1 ?_
  intro b7 hb7
  refine yU 5 ?_
  refine Cj.loop (ι := CSt) (fun j => d1B s f deep ts j) (fun j => j.ts.length) (fun j => [(0, ptr pb 0), (2, ptr b1 0), (3, ptr b7 0)]) (fun j => j.I) (fun j => [(b7, yV 73 (BR j.q j.p j.c)), (pb, yV 163 (str s :: i64 j.i :: UO j.t [i64 deep])), (b1, yV 73 (BR Cq.zero none 0))]) ⟨f, q, pq, cq, i2, t2, ts2, _⟩ ⟨hcur2, by simp only [Cq.query, hq], hps, by have h := (Cq.less f).1 deep ts hcur.good; rw [hq] at h; have := h.2; dsimp only; omega, Nat.le_refl _, ht⟩ ⟨rfl, rfl, rfl, trivial⟩ rfl rfl ?_
  clear hps ht
  rintro ⟨f', q, p, c, i', t, ts', I1⟩ ⟨hcur1, heq, hps, hf', hff, ht⟩
  dsimp only at hcur1 heq hps hf' hff ht ⊢
  obtain ⟨r, rfl⟩ := hcur1.cons
  obtain ⟨g, rfl⟩ : ∃ g, f' = g + 1 := ⟨f' - 1, by simp at hf'; omega⟩
  have htx := hcur1.txt
  refine zO (XH t (by omega) _ ht) ?_
  refine yZ (fun hc8 hc8p => ?_) (fun hc8 hc8p => ?_)
  ·have hop : Cq.operator t ≠ 0 := by have := DK hc8; omega
   obtain ⟨hi, hcur2⟩ := hcur1.next (Cq.a6q hop)
   refine zO (XH t (by omega) _ ht) ?_
   refine yU 8 ?_
   refine J.pull (Pull.s Pull.z) ?_
   refine zX (scan_ok _ _ s _ _ _ _ _ hi hs _) ?_
   intro v9 I10 H11 hle12 hp13
   have ht := ht.mono hle12
   have hps := hps.mono hle12
   obtain ⟨h, rfl⟩ := hp13; cases h
   refine yU 2 ?_
   refine Cj.EX [1, 2] [] 6 (by kernel_rfl) ?_
   refine yU 3 ?_
   rcases hq : Cq.clause g deep r with ⟨q2, ts2⟩ | ⟨pe, ee⟩
   ·skip
    refine JA.pull Pull.z ?_
    refine zX ((by have h := ih g (by omega) pb (Cq.lex s i').2 deep s (Cq.lex s i').1 r _ hcur2 ht hs (by simp at hf'; omega) hd; rw [hq] at h; exact h)) ?_
    intro v15 I16 H17 hle18 hp19
    have ht := ht.mono hle18
    have hps := hps.mono hle18
    obtain ⟨vq, i2, t2, h, ⟨pq, cq, rfl, hps2⟩, rfl, hcur3⟩ := hp19; cases h
    refine yU 2 ?_
    intro b20 hb20
    refine yU 1 ?_
    refine JA.persist hb20 (fun I22 hle21 hb20i => ?_)
    have ht := ht.mono hle21
    have hps := hps.mono hle21
    have hps2 := hps2.mono hle21
    refine JA.fix CP (fun fx23 => ?_)
    refine JA.tk 5 rfl fx23 (zL (pl := #[(0, 1), (1, 1), (2, 1), (3, 1), (4, 1)]) rfl rfl JM rfl OH (fun w => by simp [AZ, VU, BD]) (GU.part rfl rfl rfl (AX.c AX.z) (GU.part rfl rfl rfl (AX.s (AX.s (AX.s (AX.s (AX.c AX.z))))) GU.none))) ?_
    refine JA.last 6 (by kernel_rfl) rfl rfl rfl (CG 1 AU (AX.c (AX.c (AX.c (AX.c (AX.c AX.z))))) (BL.s BL.z) ?_)
    refine yU 2 ?_
    refine Ej.keep (Keeps.k (Keeps.k (Keeps.k Keeps.n))) ?_
    refine Ej.pull (Pull.s (Pull.s Pull.z)) ?_
    refine Ej.pull (Pull.s Pull.z) ?_
    refine Ej.pull (Pull.s (Pull.s Pull.z)) ?_
    refine Ej.round ⟨g, Cq.two (Cq.operator t) q q2, some ⟨b20, 0, none⟩, 2, i2, t2, ts2, _⟩ ⟨hcur3, by rw [heq]; simp only [Cq.more, hop, if_false, hq], PS.two hps hps2 hb20i, by have h := (Cq.less g).1 deep r hcur2.good; rw [hq] at h; have := h.2; simp at hf' ⊢; omega, by dsimp only; omega, ht⟩ (by have h := (Cq.less g).1 deep r hcur2.good; rw [hq] at h; have := h.2; simp; omega) ⟨rfl, rfl, rfl, trivial⟩ rfl rfl
   skip
   refine JA.pull Pull.z ?_
   refine qq2 3 rfl (zU (H1 := [_]) rfl rfl rfl rfl rfl ((by have h := ih g (by omega) pb (Cq.lex s i').2 deep s (Cq.lex s i').1 r _ hcur2 ht hs (by simp at hf'; omega) hd; rw [hq] at h; exact h)) (fun _ _ _ _ h => by cases h.1) ?_ (fun _ _ h => by cases h.1))
   intro v24 I25 H26 hle27 hp28
   obtain ⟨h, rfl⟩ := hp28; cases h
   refine Ej.b4h ?_
   refine Ej.c1u ?_
   refine Ej.b4h ?_
   refine Ej.MQ ?_
   refine Ej.bare ?_
   refine Ej.pan rfl ?_
   show UU pb s deep (Cq.query (f + 1) deep ts) _ _ _
   have hev : Cq.query (f + 1) deep ts = .err pe ee := by rw [heq]; simp only [Cq.more, hop, if_false, hq]
   rw [hev]
   exact ⟨rfl, rfl⟩
  have hop : Cq.operator t = 0 := by have := DN hc8; omega
  refine Cj.xl (Cj.sr (J.z (DX CW AU (yX.at 0 rfl)) ?_))
  refine J.op rfl (CG 2 AU (AX.c (AX.c (AX.c (AX.c (AX.c AX.z))))) (BL.s (BL.s BL.z)) ?_)
  refine J.ns (Cj.ret ?_)
  refine Ej.SG (Keeps.d (Keeps.k (Keeps.d Keeps.n))) rfl rfl rfl (yX.at 2 rfl) CW AU rfl ?_
  show UU pb s deep (Cq.query (f + 1) deep ts) _ _ _
  rw [heq]
  simp only [Cq.more, hop, if_true]
  exact ⟨_, _, _, rfl, ⟨p, c, rfl, hps⟩, rfl, hcur1⟩
 skip
 refine J.pull (Pull.s Pull.z) ?_
 refine J.op rfl (zU (H1 := [_]) rfl rfl rfl rfl rfl ((by have h := ih f (Nat.le_refl _) pb i deep s t ts _ hcur ht hs (by omega) hd; rw [hq] at h; exact h)) (fun _ _ _ _ h => by cases h.1) ?_ (fun _ _ h => by cases h.1))
 intro v29 I30 H31 hle32 hp33
 obtain ⟨h, rfl⟩ := hp33; cases h
 refine Ej.MQ ?_
 refine Ej.bare ?_
 refine Ej.pan rfl ?_
 show UU pb s deep (Cq.query (f + 1) deep ts) _ _ _
 have hev : Cq.query (f + 1) deep ts = .err pe ee := by simp only [Cq.query, hq]
 rw [hev]
 exact ⟨rfl, rfl⟩
theorem a3c : ∀ f, (∀ g, g ≤ f → b3K g) ∧ ∀ g, g ≤ f → a8L g
  | 0 => ⟨fun g hg => by obtain rfl : g = 0 := by omega
                         intro pb i deep s t ts I hcur ht hs hf hd; omega, fun g hg => by obtain rfl : g = 0 := by omega
                                                                                          intro pb i deep s t ts I hcur ht hs hf hd; omega⟩
  | f + 1 => by
    obtain ⟨h1, h2⟩ := a3c f
    refine ⟨fun g hg => ?_, fun g hg => ?_⟩
    · rcases Nat.lt_or_ge f g with h | h
      · obtain rfl : g = f + 1 := by omega
        exact b4U f (c0g f (h2 f (Nat.le_refl _)))
      exact h1 g h
    rcases Nat.lt_or_ge f g with h | h
    · obtain rfl : g = f + 1 := by omega
      exact b7a f h1
    exact h2 g h
theorem b1n f:a8L f:=(a3c f).2 f (tH _)
end Go.Proofs.YtalapkjmkjmpjaaGreatDoor
end
section
namespace Go.Proofs.YtalapkjmkjmpjaaGreatDoor
open _root_.Go.Proofs.Tryz
open Go Go.Sx
theorem b6e A G M I:VQ aN 68 [ptr A 0,ptr G 0,ptr M 0] .returning I [] (fun N Q H'=>N= .returning∧H'=[]):=by
 refine dD .nilIface .returning func68 rfl dE (tJ rfl) rfl rfl rfl rfl rfl rfl rfl rfl (fun _ cs O=> .inr ⟨by simp[recoverD,O],rfl,rfl⟩) ?_;intro w0 _;refine yU 3 ?_;refine aA (b9R rfl rfl rfl underlying20) ?_;refine yU 4 ?_;refine aV rfl rfl ?_;exact⟨⟨_,rfl⟩,rfl,rfl⟩
theorem a5J G M N p A y0 y1 O Q Z x3 x4 I:VQ aN 68 [ptr G 0,ptr M 0,ptr N 0] (.panicking (a5z p A)) I [(N,yV 58 [x4]),(M,yV 3 [x3]),(G,yV 73 [y0,y1,O,Q,Z])]
 (fun u' I' H'=>u'= .panicking [{ v:= .iface 154 (.agg #[i64 p,i64 A]),recovered:=true }]∧H'=[(N,yV 58 [i64 A]),(M,yV 3 [i64 p]),(G,yV 73 (BR Cq.zero none 0))]):=by
 refine dD (.iface 154 (.agg #[i64 p,i64 A])) (.panicking [{ v:= .iface 154 (.agg #[i64 p,i64 A]),recovered:=true }]) func68 rfl dE (tJ rfl) rfl rfl rfl rfl rfl rfl rfl rfl (fun _ cs hc=> .inl (by simp[recoverD,hc,a5z])) ?_;intro w0 _;refine yU 3 ?_;refine aA (b9Z rfl rfl rfl underlying20) ?_;refine yU 6 ?_;refine aA (a8b rfl rfl underlying154 rfl) ?_;refine yU 4 ?_;intro _ _;refine yU 14 ?_;refine bV [0] [] 8 kR ?_;refine JA.fix CP (fun _=>?_);refine bG 0 rfl (zL (pl:= #[(0,1),(1,1),(2,1),(3,1),(4,1)]) rfl rfl JM rfl OH (fun w=>by simp[AZ,VU,BD]) bI) ?_;refine yU 11 ?_;refine aQ (aG Keeps.r) ?_;refine aV rfl rfl ?_;exact⟨⟨_,rfl⟩,rfl,rfl⟩
theorem c2y s (hs:s.length≤1000000000) I (Q:Tabs I):yY aN 35 [str s] I []
 (fun e I' H'=>(∃v,e= .returned (.tuple #[v,i64 (aX s).2.1,i64 (aX s).2.2])∧QV I' (aX s).1 v)∧H'=[]):=by
 refine yY.b3O func35 rfl (by decide) (tJ rfl) ?_;intro w0 _;refine yU 3 ?_;intro b1 _;refine yU 1 ?_;intro b2 _;refine yU 1 ?_;intro b3 _;refine yU 5 ?_;refine J.defer rfl rfl rfl rfl rfl ?_;refine J.ER (aA zS ?_);refine aA (zL (pl:= #[(0,1),(1,1),(2,3)]) rfl rfl zeroValue161 rfl KI (fun w=>by simp[GI,AZ,BD]) (bH rfl rfl rfl (aB aF) bI)) ?_;refine aA (zL (pl:= #[(0,5),(5,1)]) rfl rfl zeroValue163 rfl underlying163 (fun w=>by simp[sizeOf161,AZ]) (bH rfl rfl rfl (aB (aB (aB (aB (aB aF))))) bI)) ?_;refine aJ rfl (KP rfl rfl rfl rfl rfl ?_);intro b4 _;refine aA BI ?_;refine J.ER (aA zS ?_);refine aA ET ?_;refine aA (zY (off':=0) underlying163 sizeOf161) ?_;refine J.pull cZ ?_;refine zX (scan_ok _ _ s 0 _ _ _ _ (by omega) hs _) ?_;intro _ _ _ a2 a6;have Q:=Q.mono a2;obtain⟨h,rfl⟩:=a6;cases h;refine yU 5 ?_;rcases hq:dB (4*s.length+9) 0 (cO s)with⟨q,a7⟩|⟨pe,ee⟩
 ·skip
  refine J.pull cZ ?_;refine zX ((by have h:=b1n (4*s.length+9) b4 (bK s 0).2 0 s (bK s 0).1 (cO s) _ (Cq.UN.start s) Q hs (by have:=(Cq.UN.start s).len;omega) (by omega);rw[hq]at h;exact h)) ?_;intro _ _ _ _ a3;obtain⟨_,_,Z,h,⟨pq,cq,rfl,N⟩,rfl,a0⟩:=a3;cases h;obtain⟨_,rfl⟩:=a0.cons;refine yZ ?_ ?_<;>intro G a1
  ·have O:Z.kind≠0:=by have:=bne_iff_ne.1 G;omega
   refine yU 7 ?_;refine aJ rfl (zU (H1:=[]) rfl rfl rfl rfl rfl (VZ _ _ _ _) (fun _ _ _ _ h=>by cases h.1) ?_ (fun _ _ h=>by cases h.1));intro _ _ _ _ a4;obtain⟨h,rfl⟩:=a4;cases h;refine bD ?_;refine aQ (aG (aT (aT (aT aS)))) ?_;refine dF (H1:=[_,_,_]) (R1:=[]) (.inr (.inr ⟨_,rfl,rfl⟩)) rfl (a5J b1 b2 b3 Z.pos 40 _ _ _ _ _ _ _ _) ?_;rintro u2 I2 H2 M ⟨rfl,rfl⟩;have A:aX s=(Cq.zero,Z.pos,40):=by unfold aX;rw[hq];simp[O]
   refine⟨rfl,bW (aG (aG (aG aS))) rfl rfl rfl rfl (yX.at 2 rfl) (yX.at 1 rfl) (yX.at 0 rfl) CW GZ UR AU rfl ?_⟩;rw[A];exact⟨⟨_,rfl,none,0,rfl,.inl rfl⟩,rfl⟩
  have O:Z.kind=0:=by have:=EC G;omega
  refine Cj.ks (Cj.sr (aA (DX CW AU (yX.at 3 rfl)) ?_));refine aJ rfl (CG 3 AU (aB (aB (aB (aB (aB aF))))) (aK (aK (aK aI))) ?_);refine aJ rfl (CG 2 AZ (aB aF) (aK (aK aI)) ?_);refine aJ rfl (CG 1 MW (aB aF) (aK aI) ?_);refine J.ns (Cj.ret ?_);refine dF (H1:=[]) (.inl rT) rfl (b6e b1 b2 b3 _) ?_;rintro u2 I2 H2 M ⟨rfl,rfl⟩;have N:=N.mono M;have A:aX s=(q,0,0):=by unfold aX;rw[hq];simp[O]
  refine⟨rfl,bW (aG (aG (aG (aG aS)))) rfl rfl rfl rfl (yX.at 3 rfl) (yX.at 2 rfl) (yX.at 1 rfl) CW GZ UR AU rfl ?_⟩;rw[A];exact⟨⟨_,rfl,pq,cq,rfl,N⟩,rfl⟩
 skip
 refine J.pull cZ ?_;refine aJ rfl (zU (H1:=[_]) rfl rfl rfl rfl rfl ((by have h:=b1n (4*s.length+9) b4 (bK s 0).2 0 s (bK s 0).1 (cO s) _ (Cq.UN.start s) Q hs (by have:=(Cq.UN.start s).len;omega) (by omega);rw[hq]at h;exact h)) (fun _ _ _ _ h=>by cases h.1) ?_ (fun _ _ h=>by cases h.1));intro _ _ _ _ a5;obtain⟨h,rfl⟩:=a5;cases h;refine bD ?_;refine dF (H1:=[_,_,_]) (R1:=[]) (.inr (.inr ⟨_,rfl,rfl⟩)) rfl (a5J b1 b2 b3 pe ee _ _ _ _ _ _ _ _) ?_;rintro u2 I2 H2 M ⟨rfl,rfl⟩;have A:aX s=(Cq.zero,pe,ee):=by unfold aX;rw[hq]
 refine⟨rfl,bW (aG (aG (aG aS))) rfl rfl rfl rfl (yX.at 2 rfl) (yX.at 1 rfl) (yX.at 0 rfl) CW GZ UR AU rfl ?_⟩;rw[A];exact⟨⟨_,rfl,none,0,rfl,.inl rfl⟩,rfl⟩
end Go.Proofs.YtalapkjmkjmpjaaGreatDoor
end
namespace Ke
def closed (c:Nat):Prop:=(97≤c∧c≤122)∨(48≤c∧c≤57)∨((945≤c∧c≤969)∧c≠962)∨(1072≤c∧c≤1103)
instance (c:Nat):Decidable (closed c):=by unfold closed;infer_instance
theorem YM{c}(h:closed c):okc c:=by unfold closed at h;unfold okc;omega
theorem c1K{c}(h:945≤c∧c≤969):tab.lookup c=none:=by
 have h1:∀k<25,tab.lookup (945+k)=none:=by decide +kernel
 have:=h1 (c-945) oM
 rwa [show 945+(c-945)=c by omega]at this
theorem c9F{c:Nat}(h:1072≤c∧c≤1103):tab.lookup c=none:=by
 have h1:∀k<32,tab.lookup (1072+k)=none:=by decide +kernel
 have:=h1 (c-1072) oM
 rwa [show 1072+(c-1072)=c by omega]at this
theorem b7b{c}(h:closed c):char c=enc c:=by
 unfold char;unfold closed at h
 by_cases h1:(97≤c∧c≤122)∨(48≤c∧c≤57)
 ·rw[zF h1]
 have h2:((945≤c∧c≤969)∧c≠962)∨(1072≤c∧c≤1103):=oM;rw[zD h1,zD oM,zD oM,zD oM];have h3:tab.lookup c=none:=by
  rcases h2 with h2|h2
  ·exact c1K h2.1
  exact c9F h2
 rw[h3];simp only;rw[zD oM,zF oM]
theorem b5c{c}(h:closed c):enc c≠[32]:=by
 intro A;have h1:=b2g (YM h);rw[A]at h1;have h2:runes [32]=[32]:=kR;rw[h2]at h1;have:c=32:=(List.cons.inj h1).1.symm;unfold closed at h;omega
def c3i (s:Bs):Bool:=decide (encs (runes s)=s) && (runes s).all fun c=>decide (closed c)
theorem c8n:tab.all (fun p=>c3i p.2)=true:=by decide +kernel
theorem a9b:∀{l:List (Nat×Bs)} {c:Nat} {s:Bs},l.lookup c=some s→(c,s)∈l
 |[],_,_,h=>by cases h
 |(a,b)::r,c,s,h=>by
  rw[List.lookup_cons]at h
  split at h
  ·rename_i A
   have:=zB A;subst this;cases h;exact .head _
  exact .tail _ (a9b h)
theorem c4h c:char c=[32]∨∃l,char c=encs l∧∀d∈l,closed d:=by
 have one:∀d,closed d→∃l,enc d=encs l∧∀x∈l,closed x:=fun d A=>⟨[d],by simp[encs],fun x G=>by simp at G;subst G;exact A⟩;unfold char
 split
 ·rename_i h;exact .inr (one c (by unfold closed;omega))
 split
 ·exact .inr (one (c+32) (by unfold closed;omega))
 split
 ·exact .inl rfl
 split
 ·exact .inr ⟨[],rfl,fun _ h=>by cases h⟩
 split
 ·rename_i s M
  have h1:=yG.1 c8n _ (a9b M);simp only[c3i,yP,zG]at h1;exact .inr ⟨runes s,h1.1.symm,fun d A=>zA (yG.1 h1.2 d A)⟩
 split
 ·exact .inr (one 963 dE)
 split
 ·exact .inr (one c (by unfold closed;omega))
 split
 ·exact .inr (one (c+32) (by unfold closed;omega))
 exact .inl rfl
def LU (w:Bs):Prop:=∃l,w=encs l∧∀d∈l,closed d
theorem c4o a b:encs (a++b)=encs a++encs b:=by simp[encs]
theorem a9o{a b}(A:LU a)(G:LU b):LU (a++b):=by
 obtain⟨l,rfl,h1⟩:=A;obtain⟨m,rfl,h2⟩:=G;exact⟨l++m,(c4o l m).symm,fun d M=>(wB.1 M).elim (h1 d) (h2 d)⟩
theorem a1Z:∀(l:List Nat) (w:Bs),LU w→∀x∈wf w l,LU x
 |[],w,hw,x,h=>by
  unfold wf at h
  split at h
  ·cases h
  simp at h;subst h;exact hw
 |c::r,w,hw,x,h=>by
  have h0:LU []:=⟨[],rfl,fun _ h=>by cases h⟩;unfold wf at h
  split at h
  ·split at h
   ·exact a1Z r [] h0 x h
   rcases vX.1 h with rfl|h
   ·exact hw
   exact a1Z r [] h0 x h
  rename_i G
  rcases c4h c with A|A
  ·exact absurd A G
  exact a1Z r _ (a9o hw A) x h
theorem a1w s:∀x∈words s,LU x:=a1Z _ _ ⟨[],rfl,fun _ h=>by cases h⟩
theorem b1g:∀(l:List Nat) (w:Bs) (r:List Nat),(∀d∈l,closed d)→wf w (l++r)=wf (w++encs l) r
 |[],w,r,_=>by simp[encs]
 |c::l,w,r,h=>by
  have A:=h c (.head _);show(if char c=[32]then _ else wf (w++char c) (l++r))=_;rw[b7b A,zD (b5c A),b1g l _ r fun d G=>h d (.tail _ G)];simp[encs]
theorem c0B{w}(h:LU w):∃l,w=encs l∧runes w=l∧∀d∈l,closed d:=by
 obtain⟨l,rfl,h1⟩:=h;exact⟨l,rfl,a8q l fun c A=>YM (h1 c A),h1⟩
theorem a3J{w}(h:LU w)(A:w≠[]):words w=[w]:=by
 obtain⟨l,rfl,h2,h3⟩:=c0B h;unfold words;rw[h2];have:=b1g l [] [] h3;rw[yD]at this;rw[this,vM];unfold wf;rw[zD A]
theorem a8g{c}(A:char c=[32]):∀(l:List Nat) (w:Bs) (r:List Nat),wf w (l++c::r)=wf w l++wf [] r
 |[],w,r=>by
  simp only[vM,wf,A,if_true]
  split<;>simp
 |d::l,w,r=>by
  simp only[yC,wf]
  split
  ·split
   ·exact a8g A l [] r
   rw[a8g A l [] r,yC]
  exact a8g A l _ r
theorem c0D:char 32=[32]:=dE
theorem c1q c s t (A:c.toNat<128)(G:char c.toNat=[32]):words (s++c::t)=words s++words t:=by
 unfold words;rw[b1S s (c::t) (XG oM),b6j t A,a8g G]
theorem a8W:∀(l:List Bs),(∀w∈l,LU w∧w≠[])→words (join l)=l
 |[],_=>rfl
 |[a],h=>a3J (h a (.head _)).1 (h a (.head _)).2
 |a::b::r,h=>by
  show words (a++[32]++join (b::r))=_;rw[yE,uK,c1q 32 a _ dE c0D,a3J (h a (.head _)).1 (h a (.head _)).2,a8W (b::r) fun w A=>h w (.tail _ A)];rfl
theorem b2r{s w}(h:w∈words s):w≠[]∧words w=[w]:=
 ⟨ZH _ _ w h,a3J (a1w s w h) (ZH _ _ w h)⟩
end Ke
namespace Ke
theorem ofNat_toNat{k}(h:k<256):(dG k).toNat=k:=by simp;omega
theorem b3A{w}(h:digits w=true):LU w:=by
 induction w with
 |nil=>exact⟨[],rfl,fun _ h=>by cases h⟩
 |cons c r G=>
  rw[a6U,yP]at h;have M:=TD.1 h.1;have h1:LU [c]:=⟨[c.toNat],by
   have:enc c.toNat=[c]:=by rw[enc1 oM];simp
   simp[encs,this],fun d A=>by simp at A;subst A;unfold closed;omega⟩
  exact a9o h1 (G h.2)
end Ke
namespace Ke
def plainW (w:Bs):Bs:=if digits w then w.drop 2 else w
def a1i (k:Bs):Bs:=join ((words k).map plainW)
theorem b5V{w}(h:digits w=true):digits (strip w)=true:=by
 unfold strip;rw[a3V,yP];refine⟨yG.2 fun c A=>yG.1 h c ?_,yG.2 fun c A=>yG.1 h c (vP A)⟩;exact(List.dropLast_sublist _).subset ((bJ _).subset A)
theorem b2K{w}(h:digits w=true):digits (number w)=true:=by
 unfold number;show digits ([_,_]++strip w)=true;rw[a3V,b5V h,yO];have A:∀n,n<10→digit (dG (48+n))=true:=dE;simp only[digits,yH,List.all_nil,yO,yP];exact⟨A _ oM,A _ oM⟩
theorem a2d{w}(h:LU w)(A:w≠[]):LU (KF w)∧KF w≠[]:=by
 unfold KF
 split
 ·rename_i G
  exact⟨b3A (b2K G),by unfold number;simp⟩
 exact⟨h,A⟩
theorem a6c s skip:words (GL s skip)=(words (cut s skip)).map KF:=by
 unfold GL;refine a8W _ fun x G=>?_;obtain⟨w,A,rfl⟩:=vU.1 G;exact a2d (a1w _ w A) (b2r A).1
end Ke
namespace Ke
open Go.Lib (decodeL fieldsGoD fieldsD isSpaceR fieldsGoD_nil)
theorem c3G{c}(h:closed c):isSpaceR c=false:=by
 unfold closed at h;unfold isSpaceR;simp only[Bool.or_eq_false_iff,Bool.and_eq_false_iff,decide_eq_false_iff_not,beq_eq_false_iff_ne];omega
theorem a7v:∀(l:List Nat) (A t:Bs) (f:Nat),(∀d∈l,closed d)→opens t→(encs l++t).length<f→∃g,t.length<g∧fieldsGoD f A (encs l++t)=fieldsGoD g (A++encs l) t
 |[],A,t,f,_,_,hf=>⟨f,hf,by simp[encs]⟩
 |c::l,A,t,0,_,_,hf=>absurd hf (Nat.not_lt_zero _)
 |c::l,A,t,f+1,h,ht,hf=>by
  have G:=h c (.head _);have M:=a2o (YM G);have e:encs (c::l)++t=enc c++(encs l++t):=by simp[encs]
  have O:opens (encs l++t):=b9G (a8J l fun d N=>YM (h d (.tail _ N))) ht;have hp:0<(enc c).length:=wK.2 M.2;rw[e,wV]at hf;obtain⟨g,Q,Z⟩:=a7v l (A++enc c) t f (fun d N=>h d (.tail _ N)) ht oM;refine⟨g,Q,?_⟩;rw[e]
  conv=>lhs;unfold fieldsGoD
  rw[zD (by intro h0;exact M.2 (List.append_eq_nil_iff.1 h0).1),a6T _ _ M.2 O,a7j (YM G)];dsimp only;rw[c3G G,zD yK,List.take_left,List.drop_left,Z];simp[encs]
theorem b5e:∀(ws:List Bs) (f:Nat),(∀w∈ws,LU w∧w≠[])→(join ws).length<f→fieldsGoD f [] (join ws)=ws
 |[],f,_,_=>by rw[show join []=[] from rfl,fieldsGoD_nil,zF rfl]
 |[a],f,h,hf=>by
  obtain⟨⟨l,rfl,M⟩,A⟩:=h a (.head _);show fieldsGoD f [] (encs l)=_;have O:(encs l++[]).length<f:=by rw[yD];exact hf
  obtain⟨g,_,G⟩:=a7v l [] [] f M b1Q O;rw[yD,vM]at G;rw[G,fieldsGoD_nil,zD A]
 |a::b::r,f,h,hf=>by
  obtain⟨⟨l,rfl,M⟩,A⟩:=h a (.head _);have e:join (encs l::b::r)=encs l++(32::join (b::r)):=by
   show encs l++[32]++join (b::r)=_;rw[yE,uK]
  rw[e]at hf ⊢;obtain⟨g,N,G⟩:=a7v l [] (32::join (b::r)) f M (XG dE) hf;rw[G,vM]
  match g,N with
  |g+1,N=>
   rw[wU]at N;have Q:decodeL (32::join (b::r))=(32,1):=Go.Lib.decodeL_ascii 32 _ dE
   conv=>lhs;unfold fieldsGoD
   rw[zD sI,Q];dsimp only;rw[show isSpaceR 32=true from rfl,zF rfl,zD A,List.drop_one,List.tail_cons,b5e (b::r) g (fun w Z=>h w (.tail _ Z)) oM];rfl
theorem b7h ws (h:∀w∈ws,LU w∧w≠[]):fieldsD (join ws)=ws:=b5e ws _ h oM
theorem b9h s skip:fieldsD (GL s skip)=words (GL s skip):=by
 rw[a6c];unfold GL;refine b7h _ fun x G=>?_;obtain⟨w,A,rfl⟩:=vU.1 G;exact a2d (a1w _ w A) (b2r A).1
theorem a6O f (A:∀w,(f w).length≤w.length):∀ws:List Bs,(join (ws.map f)).length≤(join ws).length
 |[]=>tH _
 |[a]=>A a
 |a::b::r=>by
  have h1:=A a;have h2:=a6O f A (b::r);show(f a++[32]++join ((b::r).map f)).length≤(a++[32]++join (b::r)).length;simp only[wV,wJ];omega
theorem b9M w:(plainW w).length≤w.length:=by
 unfold plainW
 split
 ·rw[wS];omega
 exact tH _
def b0a (k:Bs):Prop:=k.length≤40000000∧fieldsD k=words k∧(a1i k).length≤40000000∧(join (words k)).length≤40000000
theorem c9B{s skip}(h:s.length≤4000000):b0a (GL s skip):=by
 have G:(cut s skip).length≤s.length:=by unfold cut;rw[wS];omega
 have h1:(GL s skip).length≤40000000:=by
  have:=a4x (cut s skip);unfold GL;omega
 have A:join (words (GL s skip))=GL s skip:=by rw[a6c];rfl
 refine⟨h1,b9h s skip,?_,by rw[A];exact h1⟩;have h2:=a6O plainW b9M (words (GL s skip));rw[A]at h2;unfold a1i;omega
end Ke
namespace Ix
open Ke
theorem a2j n:keyOf n []=[]:=by
 unfold keyOf;rw[zD (fun h=>absurd h.1 (by decide +kernel))];decide +kernel
theorem a5U{L}(h:JB L) n b:EW L n b=(EW L n []).filter fun k=>decide (¬k<b):=by
 refine a5g (a0c L n b) ((a0c L n []).filter _) fun k=>?_;rw[vW,VD h,VD h,zG];constructor
 ·rintro⟨h1,h2⟩;exact⟨⟨List.not_lt_nil k,h2⟩,h1⟩
 rintro⟨⟨_,h2⟩,h1⟩;exact⟨h1,h2⟩
theorem a4Q s:∀(l:Row) (d:Bool),(pg s d l).length≤l.length+1
 |[],d=>by cases d<;>simp[pg]
 |x::r,true=>by rw[a1e];omega
 |x::r,false=>by
  have h1:=a4Q s r false;have h2:pg s true r=r:=a1e s r;simp only[pg,h2]
  repeat' split
  all_goals simp only[wU];omega
theorem b0O l s:(put l s).length≤l.length+1:=by
 unfold put
 repeat' split
 all_goals first
  |exact a4Q s l _
  |omega
theorem PZ:∀(xs l:Row),(xs.foldl put l).length≤l.length+xs.length
 |[],l=>sI
 |x::r,l=>by
  have h1:=PZ r (put l x);have h2:=b0O l x;rw[List.foldl_cons,wU];omega
theorem c1H f (h:f.subs.length≤3) n:(ofN f n).length≤3:=by
 unfold ofN
 repeat' split
 all_goals first
  |(rw[wO];exact Nat.le_trans (wQ _ _) h)
  |simp
theorem a6S n:∀(fs:List FN),(∀f∈fs,f.subs.length≤3)→(valsN fs n).length≤fs.length*3
 |[],_=>by simp[valsN]
 |f::r,h=>by
  have h1:=a6S n r fun x A=>h x (.tail _ A);have h2:=c1H f (h f (.head _)) n;unfold valsN at h1 ⊢;rw[xO,wV,wU];omega
theorem b5d n fs (h:∀f∈fs,f.subs.length≤3)(A:fs.length≤8):(keysOf n (vals fs)).length≤24:=by
 have h1:(keysOf n (vals fs)).length≤(valsN fs n).length:=by
  unfold keysOf;refine Nat.le_trans (wP _ _) ?_;rw[←b3D,wO,wO];exact tH _
 have h2:=a6S n fs h;omega
def Few (L:Ix):Prop:=L.length≤20∧∀e∈L,∃a:SX,e.2=a.vs
theorem c5i n (a:SX):(keysOf n a.vs).length≤24:=by
 refine b5d n _ (fun f A=>?_) ?_
 ·unfold SX.record b3q at A;obtain⟨q,_,rfl⟩:=vU.1 A;exact(c4Z q).2
 unfold SX.record b3q;rw[wO,wI,wI];omega
theorem b3W n:∀{L:Ix},(∀e∈L,∃a:SX,e.2=a.vs)→(L.flatMap fun e=>keysOf n e.2).length≤L.length*24
 |[],_=>sI
 |e::r,h=>by
  have h1:=b3W n (L:=r) fun x A=>h x (.tail _ A);obtain⟨a,G⟩:=h e (.head _);have h2:=c5i n a;rw[xO,wV,wU,G];omega
theorem b6Y{L}(h:Few L) n b:(EW L n b).length≤480:=by
 unfold EW;have h1:=PZ (((L.flatMap fun e=>keysOf n e.2)).filter fun k=>decide (¬k<b)) [];have h2:=wP (fun k=>decide (¬k<b)) (L.flatMap fun e=>keysOf n e.2);have h3:=b3W n h.2;have A:=h.1;rw[wL]at h1;omega
end Ix
namespace Ix
open Ke
def rEq:Bs:=[61]
def d0u:Bs:=[61,61]
def rGe:Bs:=[62,61]
def c0E:Bs:=[97,110,121]
def b9V:Bs:=[97,108,108]
def keyed (L:Ix) (n:Bs) (ks:Row):List Rec:=ks.flatMap fun k=>JD L n (keyOf n (a1i k))
def a2B (L:Ix) (i r s:Bs) (t:Rec):Bool:=
 if r=rEq then(if i=QH then decide (t∈JD L i (keyOf i s))else decide (t∈phrase L i (words s)))
 else if r=d0u then decide (t∈JD L i (keyOf i s))
 else if r=c0E then(words s).any fun w=>decide (t∈word L i w)
 else if r=b9V then !(words s).isEmpty && (words s).all fun w=>decide (t∈word L i w)
 else if r=rGe then decide (t∈keyed L i (EW L i (keyOf i s)))
 else decide (t∈keyed L i ((EW L i []).take ((EW L i []).length-(EW L i (keyOf i s)).length)))
def comb (k:Int) (a b:Bool):Bool:=if k=2 then a && b else if k=3 then a || b else a && !b
def c4S (L:Ix) (t:Rec) (k:Int) (i r x:Bs) (bs:List Bool):Bool:=if k=1 then a2B L i r x t else match bs with
 |[a,b]=>comb k a b
 |_=>false
def b9H (L:Ix) (t:Rec):Cq.Qs→List Bool
 | .nil=>[]
 | .cons k i r x ps rest=>c4S L t k i r x (b9H L t ps)::b9H L t rest
def sat (L:Ix) (q:Cq.Qn) (t:Rec):Bool:=c4S L t q.k q.i q.r q.t (b9H L t q.ps)
theorem a7O{L q t}(h:q.k=1):sat L q t=a2B L q.i q.r q.t t:=zF h
theorem a9Z{L q a b t}(h:q.k≠1)(A:q.ps=a.push (b.push .nil)):sat L q t=comb q.k (sat L a t) (sat L b t):=by
 unfold sat c4S;rw[zD h,A];rfl
def JK (L:Ix) (a b:Rec):Prop:=JW L a<JW L b∨(JW L a=JW L b∧FK a b=true)
theorem b2f L a:¬JK L a a:=by
 rintro(h|⟨_,h⟩)
 ·exact wH _ h
 rw[FU]at h;cases h
theorem a2I{L a b c}(h1:JK L a b)(h2:JK L b c):JK L a c:=by
 rcases h1 with h1|⟨h1,A⟩<;>rcases h2 with h2|⟨h2,G⟩
 ·exact .inl (List.lt_trans h1 h2)
 ·exact .inl (h2▸h1)
 ·exact .inl (h1▸h2)
 exact .inr ⟨h1.trans h2,MK A G⟩
theorem c4f L a b:JK L a b∨a=b∨JK L b a:=by
 by_cases h:JW L a<JW L b
 ·exact .inl (.inl h)
 by_cases h2:JW L b<JW L a
 ·exact .inr (.inr (.inl h2))
 have A:JW L a=JW L b:=List.le_antisymm (vH.1 h2) (vH.1 h);rcases SB a b with g|g|g
 ·exact .inl (.inr ⟨A,g⟩)
 ·exact .inr (.inl g)
 exact .inr (.inr (.inr ⟨A.symm,g⟩))
theorem b7W{α:Type}{r:α→α→Prop}(G:∀a,¬r a a)(M:∀{a b c},r a b→r b c→r a c):∀{l m:List α},l.Pairwise r→m.Pairwise r→(∀x,x∈l↔x∈m)→l=m
 |[],[],_,_,_=>rfl
 |[],b::m,_,_,h=>absurd ((h b).2 (.head _)) sI
 |a::l,[],_,_,h=>absurd ((h a).1 (.head _)) sI
 |a::l,b::m,hl,hm,h=>by
  rw[uY]at hl hm;have N:a=b:=by
   rcases vX.1 ((h a).1 (.head _))with e|h1
   ·exact e
   rcases vX.1 ((h b).2 (.head _))with e|h2
   ·exact e.symm
   exact absurd (M (hl.1 b h2) (hm.1 a h1)) (G a)
  subst N
  congr 1
  refine b7W G M hl.2 hm.2 fun x=>⟨fun A=>?_,fun A=>?_⟩
  ·rcases vX.1 ((h x).1 (.tail _ A))with e|g
   ·exact absurd (e▸hl.1 x A) (G a)
   exact g
  rcases vX.1 ((h x).2 (.tail _ A))with e|g
  ·exact absurd (e▸hm.1 x A) (G a)
  exact g
theorem c6c{l m:List Rec}(A:l.Nodup)(h:∀x∈l,x∈m):l.length≤m.length:=by
 induction l generalizing m with
 |nil=>simp
 |cons a r O=>
  rw[vJ]at A;have G:=h a (.head _);have:=O (m:=m.erase a) A.2 fun x M=>by
   have N:x≠a:=fun e=>A.1 (e▸M);exact(List.mem_erase_of_ne N).2 (h x (.tail _ M))
  rw[List.length_erase_of_mem G]at this;have h0:0<m.length:=List.length_pos_of_mem G;rw[wU];omega
def NK (L:Ix) (q:Cq.Qn) (l:List Rec):Prop:=l.Pairwise (JK L)∧∀t,t∈l↔t∈L.map (·.1)∧sat L q t=true
theorem NK.eq{L q l m}(h1:NK L q l)(h2:NK L q m):l=m:=
 b7W (b2f L) a2I h1.1 h2.1 fun x=>(h1.2 x).trans (h2.2 x).symm
theorem NK.len{L q l}(h:NK L q l):l.length≤L.length:=by
 have A:l.Nodup:=vI.2 (h.1.imp fun {a b} g e=>by subst e;exact b2f L a g);have G:∀x∈l,x∈L.map (·.1):=fun x M=>((h.2 x).1 M).1;have:=c6c A G
 rwa [wO]at this
theorem a4t{L n k t}(h:t∈JD L n k):t∈L.map (·.1):=by
 unfold JD at h
 split at h
 ·cases h
 obtain⟨e,A,rfl⟩:=vU.1 h;exact vT (vW.1 A).1
theorem a6b{L n w t}(h:t∈phrase L n w):t∈L.map (·.1):=by
 unfold phrase at h
 split at h
 ·cases h
 obtain⟨e,A,rfl⟩:=vU.1 h;exact vT (vW.1 A).1
theorem b0q{L n s t}(h:t∈word L n s):t∈L.map (·.1):=by
 unfold word at h
 split at h
 ·exact a6b h
 cases h
theorem c6P{L n ks t}(h:t∈keyed L n ks):t∈L.map (·.1):=by
 obtain⟨k,_,h⟩:=vV.1 h;exact a4t h
theorem c9l{L i r s t}(h:a2B L i r s t=true):t∈L.map (·.1):=by
 unfold a2B at h
 split at h
 ·split at h
  ·exact a4t (zA h)
  exact a6b (zA h)
 split at h
 ·exact a4t (zA h)
 split at h
 ·obtain⟨w,_,h⟩:=yF.1 h;exact b0q (zA h)
 split at h
 ·rw[yP]at h;cases hw:words s with
  |nil=>rw[hw]at h;simp at h
  |cons a r=>rw[hw]at h;exact b0q (zA (yG.1 h.2 a (.head _)))
 split at h<;>exact c6P (zA h)
theorem c5o{n k vs}:hasK n k vs=true↔∃v∈vs,v.name=n∧v.key=k:=by
 unfold hasK;rw[yF];constructor
 ·rintro⟨v,h,g⟩;rw[yP,zG,zG]at g;exact⟨v,h,g.1,g.2⟩
 rintro⟨v,h,A,G⟩;exact⟨v,h,by rw[yP,zG,zG];exact⟨A,G⟩⟩
end Ix
namespace Ix
open Ke
def TOK (L:Ix):Prop:=∀e∈L,∀v∈e.2,v.text.length≤4000000
theorem a6J{L}(A:JB L){n b k}(h:k∈EW L n b):∃e∈L,∃v∈e.2,v.name=n∧v.key=k:=by
 obtain⟨_,h2⟩:=(VD A).1 h;obtain⟨e,G,M⟩:=(a3i A).1 h2;obtain⟨_,N⟩:=YX.1 M;obtain⟨v,O,Q,Z⟩:=c5o.1 N;exact⟨e,G,v,O,Q,Z⟩
theorem TOK.key{L}(h:TOK L)(A:JB L){n b k}(G:k∈EW L n b):b0a k:=by
 obtain⟨e,M,v,N,_,rfl⟩:=a6J A G;exact c9B (h e M v N)
theorem ZO L n k:(JD L n k).length≤L.length:=by
 unfold JD
 split
 ·exact sQ _
 rw[wO];exact wP _ _
theorem b0U{L n s most}(h:(EW L n (keyOf n s)).length≤most.toNat):(scan L n s most).map (·.1)=EW L n (keyOf n s):=by
 unfold scan;rw[tX h,wE];exact List.map_id _
end Ix
section
namespace Go.Proofs.YtalapkjmkjmpjaaGreatDoor
open Go Go.Sx
def NP (I:Heap):Prop:=∀w:World,(∀b o,I b=some o→w.heap[b]?=some o)→Lib.TabIs aN w "strings.asciiSpace" .u8 Lib.asciiSpaceTab∧Lib.WhiteTab 5 w
theorem NP.mono{I A}(h:NP I)(G:Le I A):NP A:=fun w M=>h w fun b o N=>M b o (G b o N)
theorem c2G s ws (M:Lib.fieldsD s=ws)(N:s.length≤4000000000) I (A:NP I):yY aN 367 [str s] I [] (fun e _ H'=>∃b sp,e= .returned (.slice (some ⟨b,0,none⟩) ws.length ws.length)∧H'=[(b,yV 9 (ws.map str++sp))]):=
 yY.c8F (vals:=ws.map fun x=>Value.string ⟨x.toArray⟩) rfl (Enters.of Tryz.func367 dE rfl) fun w G=>by
  have h:=Tryz.strings_Fields_any ⟨s.toArray⟩ w (by rw[size_mk];omega) (A w G).1 (A w G).2;rw[show(⟨s.toArray⟩:ByteArray).data.toList=s by simp,M]at h;exact h
def PG (ws:List (List UInt8)) (i:Nat):List (List UInt8):=(ws.take i).map Ke.plainW++ws.drop i
theorem a7z ws i:(PG ws i).length=ws.length:=by
 unfold PG;rw[wV,wO,wI,wS];omega
theorem b4u{ws i x}(h:ws[i]?=some x):(PG ws i)[i]?=some x:=by
 have A:=(xC.1 h).1;unfold PG;rw[xI (by rw[wO,wI];omega),wO,wI,sW (Nat.le_of_lt A),Nat.sub_self,xH];exact h
theorem b5j{ws i x}(h:ws[i]?=some x) sp:((PG ws i).map str++sp).set i (str (Ke.plainW x))=(PG ws (i+1)).map str++sp:=by
 obtain⟨A,G⟩:=xC.1 h;rw[List.set_append_left _ _ (by rw[wO,a7z];exact A),List.map_set.symm]
 congr 2
 unfold PG;rw[uO _ _ (by rw[wO,wI];omega),wO,wI,sW (Nat.le_of_lt A),Nat.sub_self,←wX A,uM,tN A,G,wG,yE];rfl
theorem b7q{ws i x}(h:ws[i]?=some x)(G:Ke.plainW x=x):PG ws i=PG ws (i+1):=by
 obtain⟨A,M⟩:=xC.1 h;unfold PG;rw[←wX A,tN A,M,wG,yE];show _=_++([Ke.plainW x]++_);rw[G];rfl
theorem c6b k (Z:Ke.b0a k) I (hT:NP I):Pure aN 340 [str k] I (str (Ke.a1i k)):=by
 refine yY.toPure ?_;have a9:=Z.1;have aa:=Ke.NU k;have ab:=Z.2.2.1;refine zN Tryz.func340 fun w0 _=>?_;refine zX (c2G k (aH k) Z.2.1 oM _ hT) ?_;intro _ _ _ _ a2;obtain⟨M,Q,h,rfl⟩:=a2;cases h;refine yU 12 ?_;refine Cj.loop (ι:=Nat) (fun i=>i≤(aH k).length) (fun i=>(aH k).length-i) (fun i=>[(3,.slice (some ⟨M,0,none⟩) (aH k).length (aH k).length),(8,.slice (some ⟨M,0,none⟩) (aH k).length (aH k).length),(9,i64 ((aH k).length:Int)),(10,i64 (i:Int))]) (fun i=>_) (fun i=>[(M,yV 9 ((PG (aH k) i).map str++Q))]) 0 (sQ _) rT rfl (by unfold PG;simp) ?_;rintro i _;have a3:=a7z (aH k) i;refine yZ ?_ ?_<;>intro a4 a0
 ·have a5:i<(aH k).length:=oM;obtain⟨x,A⟩:∃x,(aH k)[i]?=some x:=⟨_,AA a5⟩;have a6:=CJ A;have ac:=Ke.NY _ x a6;refine zW i ?_;refine aA (DI DU (yX.at 0 rfl) (EL (b4u A))) ?_;refine zO (b7Y x oM _) ?_;refine yU 1 ?_;refine aZ 17 (.bool (Ke.digits x)) rfl (zC Value.bool (Ke.a6Z x)) ?_;refine DF ?_ ?_<;>intro G
  ·refine yU 6 ?_;refine aA (LJ rfl rfl rfl) ?_;refine aZ 23 (i64 ((min 2 x.length:Nat):Int)) rfl (zC i64 oM) ?_;refine aA (AO (p:=min 2 x.length) (q:=x.length) rfl rfl AV ⟨_,rfl⟩ rfl oM oM) ?_;refine aZ 24 (str (Ke.plainW x)) rfl (by rw[tY];unfold Ke.plainW;rw[zF G];congr 1;rcases Nat.le_total 2 x.length with h|h;rw[sW h];rw[Nat.min_eq_right h,bT,xX h]) ?_;refine zW i ?_;refine aJ rfl (MG 0 rfl rfl rfl rfl rfl rfl BD rfl (.inl rfl) (by rw[wV,wO,a3];omega) aI ?_);refine yU 7 ?_;refine bQ (i+1) oM oM rT rfl (by rw[b5j A];rfl)
  have a7:Ke.plainW x=x:=by unfold Ke.plainW;rw[G];rfl
  refine yU 7 ?_;refine bQ (i+1) oM oM rT rfl (by rw[b7q A a7])
 refine yU 6 ?_;refine Cj.a6e rfl (fun a1=>?_);refine Cj.persist (a1 _ (.head _)) (fun I9 _ N=>?_);have a8:i=(aH k).length:=oM;have O:PG (aH k) i=(aH k).map Ke.plainW:=by rw[a8];unfold PG;rw[tY,bT,yD]
 rw[O]at N;have hv:IV 9 I9 ((aH k).map Ke.plainW) (.slice (some ⟨M,0,none⟩) (aH k).length (aH k).length):= .inr ⟨M,_,Q,by rw[wO],by rw[wO];exact tH _,N⟩;refine zO (a6n ((aH k).map Ke.plainW) _ (by rw[wO];omega) (by show(Ke.a1i k).length≤_;omega) _ hv) ?_;refine zM ?_;exact rT
end Go.Proofs.YtalapkjmkjmpjaaGreatDoor
end
namespace Go.Proofs.YtalapkjmkjmpjaaGreatDoor
open Go Go.Sx
def IL (m:ML aU) (k:Nat) (S:aU→Bool):Prop:=MS m k∧∀t,AQ m t=if S t=true then some (.bool true)else none
def MC (I:Heap) (v:Value) (S:aU→Bool):Prop:=(v= .map none∧∀t,S t=false)∨∃b m k,v= .map (some b)∧IL m k S∧I b=some (zZ AB m k)
def a0D (v:Value) (S:aU→Bool) (H:HL):Prop:=∃b m k,v= .map (some b)∧IL m k S∧H=[(b,zZ AB m k)]
theorem MC.mono{I A v S}(h:MC I v S)(G:Le I A):MC A v S:=
 h.imp id fun⟨b,m,k,h1,h2,h3⟩=>⟨b,m,k,h1,h2,G _ _ h3⟩
theorem MC.shape{I v S}(h:MC I v S):∃o,v= .map o:=h.elim (fun g=>⟨none,g.1⟩) fun⟨b,_,_,g,_⟩=>⟨some b,g⟩
def UL (l:List aU) (t:aU):Bool:=decide (t∈l)
theorem IL.nil:IL [] 0 (UL []):=⟨MS.nil,fun t=>by rw[show UL [] t=false from zI sI];rfl⟩
theorem IL.congr{m k S A}(h:IL m k S)(G:∀t,S t=A t):IL m k A:=⟨h.1,fun t=>by rw[←G t];exact h.2 t⟩
theorem IL.add{m k S A}(h:IL m k S) u (G:∀t,A t=(t == u || S t)):IL (BF m u (.bool true) k) (EJ m u k) A:=by
 refine⟨h.1.set u _,fun t=>?_⟩;rw[MI,G t]
 by_cases ht:(t == u)=true
 ·rw[zF ht,ht];rfl
 rw[zD ht,h.2 t,yN.2 ht];rfl
theorem IL.push{m k l}(h:IL m k (UL l)) u:IL (BF m u (.bool true) k) (EJ m u k) (UL (l++[u])):=h.add u fun t=>by
 unfold UL;rw[yM,aW,zG,zG,wB,vN,beq_iff_eq];exact Or.comm
theorem IL.get{m k S}(h:IL m k S) t:(AQ m t).getD (.bool false)= .bool (S t):=by
 rw[h.2 t];cases S t<;>rfl
theorem IL.mem{m k S}(h:IL m k S) t:t∈m.map (·.1)↔S t=true:=by
 have h1:=h.2 t;constructor
 ·intro G;cases A:S t with
  |true=>rfl
  |false=>
   rw[A,zD yK]at h1;exact absurd G (IX.1 h1)
 intro A;rw[zF A]at h1;refine Classical.byContradiction fun M=>?_;rw[IX.2 M]at h1;cases h1
theorem IL.empty{m k S}(h:IL m k S)(h0:m.length=0) t:S t=false:=by
 have A:m=[]:=wR.1 h0;cases hs:S t with
 |false=>rfl
 |true=>have:=(h.mem t).2 hs;rw[A]at this;cases this
theorem IL.len{m k S}(h:IL m k S){l:List aU}(A:∀t,S t=true→t∈l):m.length≤l.length:=by
 have:=ZT (l:=m.map (·.1)) (m:=l) h.1.1 fun t G=>A t ((h.mem t).1 G)
 rwa [wO]at this
def a0V (vis:ML aU) (P:aU→Bool) (t:aU):Bool:=decide (t∈vis.map (·.1)) && P t
theorem c0Y{vis P x}(h:P x.1=true) t:a0V (vis++[x]) P t=(t == x.1 || a0V vis P t):=by
 unfold a0V;rw[yM,aW,yP,yP,zG,zG,beq_iff_eq,wG,wB,wF,wC,vN];constructor
 ·rintro⟨h1|h1,h2⟩
  ·exact .inr ⟨h1,h2⟩
  exact .inl h1
 rintro(rfl|⟨h1,h2⟩)
 ·exact⟨.inr rfl,h⟩
 exact⟨.inl h1,h2⟩
theorem c6Q{vis P x}(h:P x.1=false) t:a0V (vis++[x]) P t=a0V vis P t:=by
 unfold a0V;rw[yM,yP,yP,zG,zG,wG,wB,wF,wC,vN];constructor
 ·rintro⟨h1|h1,h2⟩
  ·exact⟨h1,h2⟩
  rw[h1,h]at h2;cases h2
 rintro⟨h1,h2⟩;exact⟨.inl h1,h2⟩
theorem c3T{vis m k S P}(h:IL m k S)(A:vis.Perm m) t:a0V vis P t=(S t && P t):=by
 unfold a0V
 congr 1
 rw[yM,zG,(A.map _).mem_iff,h.mem]
def a0X (vis:ML aU) (A:aU→Bool) (t:aU):Bool:=A t || decide (t∈vis.map (·.1))
theorem a9j{vis A x} t:a0X (vis++[x]) A t=(t == x.1 || a0X vis A t):=by
 unfold a0X;rw[yM,aW,aW,aW,zG,zG,beq_iff_eq,wG,wB,wF,wC,vN];constructor
 ·rintro(h|h|h)
  ·exact .inr (.inl h)
  ·exact .inr (.inr h)
  exact .inl h
 rintro(h|h|h)
 ·exact .inr (.inr h)
 ·exact .inl h
 exact .inr (.inl h)
theorem b0W{vis m k S A}(h:IL m k S)(G:vis.Perm m) t:a0X vis A t=(A t || S t):=by
 unfold a0X
 congr 1
 rw[yM,zG,(G.map _).mem_iff,h.mem]
abbrev LR:=List aU×Value
abbrev lrC (x:LR):List Value:=[x.2]
def LLS (I:Heap) (l:List LR) (v:Value):Prop:=zJ lrC I l v∧∀x∈l,zJ recC I x.1 x.2
theorem LLS.mono{I G l v}(h:LLS I l v)(A:Le I G):LLS G l v:=⟨h.1.mono A,fun x M=>(h.2 x M).mono A⟩
theorem a5c{ls:List LR}{A G:List Value}{lo}(h:A.drop lo=ls.flatMap lrC++G){i x}(N:ls[i]?=some x):A[lo+i]?=some x.2:=by
 have M:=BO (f:=lrC) (n:=1) (fun _=>rfl) h N 0 Nat.zero_lt_one;rw[Nat.mul_one,Nat.add_zero]at M;exact M
theorem c9y{l:List LR}{i x}(h:l[i]?=some x):(l.take (i+1)).flatMap (·.1)=(l.take i).flatMap (·.1)++x.1:=by
 obtain⟨A,G⟩:=xC.1 h;rw[tN A,G,xP];simp
theorem c6z{l:List aU}{i x}(h:l[i]?=some x) P:P++l.take (i+1)=(P++l.take i)++[x]:=by
 obtain⟨A,G⟩:=xC.1 h;rw[tN A,G,yE]
theorem EF{α:Type}{f:α→List Value}{I:Heap}{l:List α}{v:Value}(h:zJ f I l v):∃p c,v= .slice p l.length c:=let ⟨p,c,h1,_⟩:=h;⟨p,c,h1⟩
def OQ (I:Heap) (v:Value) (L:Ix.Ix):Prop:=(v= .pointer none∧L=[])∨∃ib,v=ptr ib 0∧XC I ib L
theorem OQ.mono{I A v L}(h:OQ I v L)(G:Le I A):OQ A v L:=h.imp id fun⟨M,h1,h2⟩=>⟨M,h1,h2.mono G⟩
theorem OQ.JC{I v L}(h:OQ I v L):Ix.JB L:=by
 rcases h with⟨_,rfl⟩|⟨A,_,h⟩
 ·exact List.Pairwise.nil
 exact h.JC
theorem OQ.big{I v L}(h:OQ I v L):L.length≤100000:=by
 rcases h with⟨_,rfl⟩|⟨A,_,h⟩
 ·exact sQ _
 exact h.big
