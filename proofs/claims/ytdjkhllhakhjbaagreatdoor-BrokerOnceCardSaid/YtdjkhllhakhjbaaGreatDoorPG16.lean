/-
  Own texts on the laws of the seat, joined: the logic, and contracts of functions. Conditions: none.
-/
import Derived.Test.YtdjkhllhakhjbaaGreatDoorNmG
import Derived.Test.YtdjkhllhakhjbaaGreatDoorPG15
set_option linter.all false
set_option maxRecDepth 100000
set_option maxHeartbeats 40000000
open Go.Sx.J renaming z -> aA,op -> aI,nil -> aZ,eqv -> bC,perm -> bV
open Go.Sx.EW renaming c -> aB,z -> aC,s -> aF
open Go.Sx.DZ renaming z -> aG,s -> aK
open Go.Sx.Cj renaming region -> aH,seq -> aP,ret -> bJ,block -> cZ
open Go.Sx.JA renaming tk -> aJ,eqv -> dD
open Cq renaming skip -> aN,isTerm -> aO,head -> aW,MC -> aY
open Go.Sx.Ej renaming keep -> aQ,RY -> aX,bare -> bH,b2h -> bT,JE -> bW,pan -> dF
open List renaming length_cons -> aS,take_length -> bD,perm_append_comm -> bG,length_pos_iff -> bI,length_drop -> bU
open Go.Sx.Keeps renaming d -> aT,k -> aU,n -> aV
open Go.Proofs.Tryz renaming prog -> bF
open Go.Sx.CSub renaming c -> bK,n -> dB
open Go.Lib renaming indexAny -> bM
open Bool renaming false_eq_true -> bP
open Go.Sx.SC renaming cell -> bQ
open Go.Sx.Le renaming refl -> bY
open Go.Sx.yS renaming still -> bZ
open Go.Sx.KP renaming part -> cO
open Go.Sx.HSub renaming n -> dA
namespace Go.Proofs.YtdjkhllhakhjbaaGreatDoor
open _root_.Go.Proofs.Tryz
open Go Go.Sx
theorem TT{α:Type}{x}{R G:List α}:((x::G)++R).Perm (x::(R++G)):=List.Perm.cons _ bG
theorem a9X{α:Type}{x:α}{R G:List α}:(x::(R++G)).Perm ((x::G)++R):=List.Perm.cons _ bG
theorem b4C x s tb kd tx pos (h0:0<s.length)(hs:s.length≤1000000000) I:yS bF 138 [x,str s,ptr tb 0] I [(tb,yZ 180 [kd,tx,pos])]
 (fun e I' H'=>((aY s 0).2≠0∧e= .returned (i64 (aY s 0).2)∧H'=[(tb,yZ 180 [kd,str (aY s 0).1,pos])])∨((aY s 0).2=0∧e= .returned (i64 s.length)∧H'=[(tb,yZ 180 [i64 4,tx,pos])])):=by
 refine yS.ob func138 ?_;intro w0 _;refine Cj.sr (aA yQ ?_);refine J.yX (aI rfl (CU zeroValue224 ?_));intro b1 _;refine J.zX (aH (aA yQ ?_));refine J.ns (cZ (Cj.loop (ι:=Nat×List UInt8×Bool×Gs) (fun j=>Cq.SE s 0 j.1 j.2.1∧BM 0 1 j.2.1.length (EY j.2.1) j.2.2.2∧(j.2.1=[]→j.2.2.2=none)) (fun j=>s.length+1-j.1) (fun j=>[(1,str s),(2,ptr tb 0),(7,ptr b1 0),(8,i64 (j.1:Int))]) (fun j=>I) (fun j=>(b1,yZ 224 [if j.2.2.1 then ptr b1 0 else .pointer none,gV j.2.1.length j.2.2.2])::(tb,yZ 180 [kd,tx,pos])::gH 5 (EY j.2.1) j.2.2.2) (1,[],false,none) ⟨Cq.SE.start s 0 oM,⟨rfl,rfl⟩,fun _=>rfl⟩ rT rfl rfl ?_));rintro⟨k,out,p,g⟩ ⟨hq,hg,hn⟩;dsimp only at hq hg hn ⊢;have ag:=hq.lo;have af:=hq.le;have ah:=hq.ol;refine aP (Cj.sr (aA yP ?_));refine aA yP ?_;refine aA (CG rfl rfl BU) ?_;refine aA AV ?_;refine J.cd (fun a1=>?_) (fun a1=>?_)
 ·have a5:=BH a1;have Q:k<s.length:=oM;obtain⟨c,A⟩:∃c,s[k]?=some c:=⟨_,DC Q⟩;refine Cj.ks (aP (cZ (Cj.sr (aA yP ?_))));refine aA yP ?_;refine aA (GK rfl rfl rfl BU oM A) ?_;refine aA yQ ?_;refine J.zX (aH (aA yP ?_));refine aA DW ?_;refine J.cd (fun N=>?_) (fun N=>?_)
  ·have a6:=DF N;have a2:c=34:=a9N (d:=34) (DF N);refine Cj.sr (aA yP ?_);refine bV (TT (R:=[_])) ?_;refine aI rfl (yT (H1:=LK _ _ _ _) rfl rfl rfl rfl rfl (bZ (a4r _ out p g hg hn oM _)) ?_ (fun _ _ _ _ h=>by cases h.2.1) (fun _ _ h=>by cases h.2.1));intro _ _ _ _ ac;obtain⟨rfl,h,_,_,rfl⟩:=ac;cases h;refine aA zQ ?_;refine aA (qq2 (off':=1) DV zS) ?_;refine aI rfl (AB 1 zS (aF (aB aC)) (aK aG) ?_);refine J.yX (aA yP ?_);refine aA (yY rfl rfl rfl (zV oM)) ?_;refine aA yQ ?_;refine J.ns (Cj.rs (Ej.OY (Ej.KU (Ej.NC (Ej.OY (Ej.KU (aQ (aT (aU aV)) ?_)))))));refine zM ?_;have he:=hq.quote c A a2;rw[he];exact .inl ⟨sI,rfl,rfl⟩
  have a6:=DU N;have a2:c≠34:=a6Z (d:=34) (DU N);refine Cj.ks (aP (Cj.sr (aA yP ?_)));refine aA DW ?_;refine J.cd (fun G=>?_) (fun G=>?_)
  ·have a3:=DF G;have Z:c=92:=a9N (d:=92) (DF G);refine Cj.sr (aA yP ?_);refine aA (yY rfl rfl rfl (zV oM)) ?_;refine aA yQ ?_;refine J.zX (aH (aA yP ?_));refine aA yP ?_;refine aA (CG rfl rfl BU) ?_;refine aA DW ?_;refine J.cd (fun O=>?_) (fun O=>?_)
   ·have a4:=DF O;refine Cj.exit (bW (bW (Ej.a6c rfl ?_)));refine bW (Ej.IB (Ej.JM (Ej.seq (Cj.sr (aA yP ?_)))));refine aA zQ ?_;refine aA (qq2 (off':=0) DV EM) ?_;refine aI rfl (AB 1 EM (aB aC) (aK aG) ?_);refine J.yX (aA yP ?_);refine aA (CG rfl rfl BU) ?_;refine aA yQ ?_;refine J.ns (bJ (aQ (b3G) ?_));refine zM ?_;have he:=(hq.fin Q c A Z oM).past oM;rw[he];exact .inr rT
   have a4:=DU O;have a7:k+1<s.length:=oM;obtain⟨d,a0⟩:∃d,s[k+1]?=some d:=⟨_,DC a7⟩;refine Cj.ks (aH (aA yP ?_));refine aA yP ?_;refine aA (GK rfl rfl rfl BU oM a0) ?_;refine aA yQ ?_;refine J.GI (aA yP ?_);refine bV (TT (R:=[_])) ?_;refine aI rfl (yT (H1:=LK _ _ _ _) rfl rfl rfl rfl rfl (bZ (a3w _ out d p g hg oM _)) ?_ (fun _ _ _ _ h=>by cases h.2.1) (fun _ _ h=>by cases h.2.1));intro _ _ _ _ a8;obtain⟨rfl,h,ad,a9,rfl⟩:=a8;cases h;refine bV (a9X (R:=[_])) ?_;refine J.nb (aH (aA yP ?_));refine aA (yY rfl rfl rfl (zV oM)) ?_;refine aA yQ ?_;refine aZ (Ej.round ((k+1+1),out++[d],true,ad) ⟨hq.esc Q c A Z d a0,a9,fun h=>absurd h sI⟩ dO rT rfl rfl)
  have a3:=DU G;have Z:c≠92:=a6Z (d:=92) (DU G);refine Cj.ks (aH (aA yP ?_));refine bV (TT (R:=[_])) ?_;refine aI rfl (yT (H1:=LK _ _ _ _) rfl rfl rfl rfl rfl (bZ (a3w _ out c p g hg oM _)) ?_ (fun _ _ _ _ h=>by cases h.2.1) (fun _ _ h=>by cases h.2.1));intro _ _ _ _ aa;obtain⟨rfl,h,ae,ab,rfl⟩:=aa;cases h;refine bV (a9X (R:=[_])) ?_;refine J.nb (aH (aA yP ?_));refine aA (yY rfl rfl rfl (zV oM)) ?_;refine aA yQ ?_;refine aZ (Ej.round ((k+1),out++[c],true,ae) ⟨hq.byte Q c A a2 Z,ab,fun h=>absurd h sI⟩ dO rT rfl rfl)
 have a5:=BJ a1;refine Cj.xl (Cj.sr (aA yP ?_));refine aA zQ ?_;refine aA (qq2 (off':=0) DV EM) ?_;refine aI rfl (AB 1 EM (aB aC) (aK aG) ?_);refine J.yX (aA yP ?_);refine aA (CG rfl rfl BU) ?_;refine aA yQ ?_;refine J.ns (bJ (aQ (b3G) ?_));refine zM ?_;have he:=hq.past oM;rw[he];exact .inr rT
def ZO (t:Cq.Tok) (l:List Value):List Value:=i64 t.kind::str t.text::i64 t.pos::l
theorem scan_ok pb T (s:List UInt8)(i:Nat)(k0 x0 a0:Value)(rs:List Value)(hi:i≤s.length)(hs:s.length≤1000000000) I:yS bF 94 [ptr pb 0] I [(pb,yZ T (str s::i64 i::k0::x0::a0::rs))]
 (fun e I' H'=>e= .returned (.tuple #[])∧H'=[(pb,yZ T (str s::i64 (Cq.lex s i).2::ZO (Cq.lex s i).1 rs))]):=by
 obtain⟨_,_⟩:=Cq.b4k s i hi;obtain⟨rest,N⟩:∃rest,s.drop (aN s i)=rest:=⟨_,rfl⟩;have an:aN s i+rest.length=s.length:=by rw[←N,bU];omega
 have ao:(Lib.trimLeftS (s.drop i) blanks).length≤(s.drop i).length:=(List.dropWhile_sublist _).length_le;have ap:(s.drop i).length≤s.length:=by rw[bU];omega
 refine yS.ob func94 ?_;intro w0 _;refine aP (Cj.JD [] [(pb,0,str s),(pb,1,i64 i)] 29 kR ?_);refine JA.fix ⟨dA,(bK 0 rfl rfl (bK 0 rfl rfl dB)),(bY _)⟩ (fun BX=>?_);refine aJ 0 rfl BX yP ?_;refine aJ 1 rfl BX zQ ?_;refine aJ 2 rfl BX (qq2 (off':=1) DX BO) ?_;refine aJ 3 rfl BX (a0O rfl rfl FY (bQ 1 rfl)) ?_;refine aJ 4 rfl BX yP ?_;refine aJ 5 rfl BX zQ ?_;refine aJ 6 rfl BX (qq2 (off':=0) DX zS) ?_;refine aJ 7 rfl BX (a0O rfl rfl BR (bQ 0 rfl)) ?_;refine aJ 8 rfl BX yP ?_;refine aJ 9 rfl BX zQ ?_;refine aJ 10 rfl BX (qq2 (off':=1) DX BO) ?_;refine aJ 11 rfl BX (a0O rfl rfl FY (bQ 1 rfl)) ?_;refine aJ 12 rfl BX (EC (p:=i) (q:=s.length) rfl rfl BU ⟨_,rfl⟩ rfl oM oM) ?_;refine dD 17 rfl (show _=str (s.drop i) from(by rw[bD])) ?_;refine aJ 13 rfl BX (CG rfl rfl BU) ?_;refine aJ 14 rfl BX yP ?_;refine aJ 15 rfl BX zQ ?_;refine aJ 16 rfl BX (qq2 (off':=0) DX zS) ?_;refine aJ 17 rfl BX (a0O rfl rfl BR (bQ 0 rfl)) ?_;refine aJ 18 rfl BX yP ?_;refine aJ 19 rfl BX zQ ?_;refine aJ 20 rfl BX (qq2 (off':=1) DX BO) ?_;refine aJ 21 rfl BX (a0O rfl rfl FY (bQ 1 rfl)) ?_;refine aJ 22 rfl BX (EC (p:=i) (q:=s.length) rfl rfl BU ⟨_,rfl⟩ rfl oM oM) ?_;refine dD 27 rfl (show _=str (s.drop i) from(by rw[bD])) ?_;refine zO 23 rfl (yU rfl rfl rfl rfl rfl (b3g _ _) ?_);refine⟨⟨(bY _),dA,(bK 0 rfl rfl (bK 0 rfl rfl dB))⟩,?_⟩;refine JA.fix ⟨dA,(bK 0 rfl rfl (bK 0 rfl rfl dB)),(bY _)⟩ (fun a6=>?_);refine aJ 24 rfl a6 (CG rfl rfl BU) ?_;refine aJ 25 rfl a6 (EP rfl rfl rfl (zV oM)) ?_;refine aJ 26 rfl a6 (yY rfl rfl rfl (zV oM)) ?_;refine dD 31 rfl (show _=i64 (aN s i:Nat) from(by rw[b7r s i hi])) ?_;refine aJ 27 rfl a6 zQ ?_;refine aJ 28 rfl a6 (qq2 (off':=1) DX BO) ?_;refine JA.last 29 kR rfl rfl rfl (AB 0 BO (aF (aB aC)) aG ?_);refine AA ?_;refine Ej.seq (aP (Cj.JD [0] [] 10 kR ?_));refine JA.fix ⟨(HSub.c 0 rfl dA),dB,(bY _)⟩ (fun Q=>?_);refine aJ 0 rfl Q yP ?_;refine aJ 1 rfl Q zQ ?_;refine aJ 2 rfl Q (qq2 (off':=0) DX zS) ?_;refine aJ 3 rfl Q (yV BR (yR.ZU 0 rfl)) ?_;refine aJ 4 rfl Q yP ?_;refine aJ 5 rfl Q zQ ?_;refine aJ 6 rfl Q (qq2 (off':=1) DX BO) ?_;refine aJ 7 rfl Q (yV FY (yR.ZU 0 rfl)) ?_;refine aJ 8 rfl Q (EC (p:=aN s i) (q:=s.length) rfl rfl BU ⟨_,rfl⟩ rfl oM oM) ?_;refine dD 42 rfl (show _=str rest from(by rw[bD,N])) ?_;refine aJ 9 rfl Q yQ ?_;refine AA ?_;refine Ej.seq (Cj.sr (aA yP ?_));refine aA zQ ?_;refine aA (qq2 (off':=1) DX BO) ?_;refine aA (yV FY (yR.at 0 rfl)) ?_;refine aA (BD (pl:= #[(0,1),(1,1),(2,1)]) rfl rfl zeroValue180 rfl DV (fun w=>by simp[EM,BO,zS]) (cO rfl rfl rfl (aF (aF (aB aC))) KP.none)) ?_;refine aI rfl (CU zeroValue180 ?_);intro _ _;refine aI rfl (AB 0 CJ (aB (aB (aB aC))) aG ?_);refine J.yX (aA yP ?_);refine aI rfl (yU rfl rfl rfl rfl rfl (b2E rest breaks oM dE dE dE _) ?_);refine aA yQ ?_;refine J.nss (cZ (Cj.sr (aA yP ?_)));refine aA IW ?_;refine aA yQ ?_;refine J.cd (fun a7=>?_) (fun a7=>?_)
 ·have ah:=DF a7;have he:rest=[]:=DF a7;subst he;refine aH (aA (qq2 (off':=0) DV EM) ?_);refine aI rfl (AB 0 EM (aB aC) aG ?_);refine J.nb (aP (Cj.sr (aA (qq2 (off':=0) DV EM) ?_)));refine aA (yV JW (yR.at 0 rfl)) ?_;refine aA DW ?_;refine aA yP ?_;refine CO 3 85 false (zK (qq2 (off':=0) DV EM) ?_);refine CO 3 85 false (zK (yV JW (yR.at 0 rfl)) ?_);refine CO 3 85 false (zK DW ?_);refine aA (ET rfl rfl rfl rfl) ?_;refine J.c0 (fun _=>?_);refine Cj.ks (Cj.sr (aA yP ?_));refine aA zQ ?_;refine aA (qq2 (off':=1) DX BO) ?_;refine aA (yV FY (yR.at 1 rfl)) ?_;refine aA yP ?_;refine aA (KE rfl rfl rfl) ?_;refine bC 99 rfl (show _=i64 (0:Nat) from rfl) ?_;refine aA (yY rfl rfl rfl (zV oM)) ?_;refine aA zQ ?_;refine aA (qq2 (off':=1) DX BO) ?_;refine aI rfl (AB 1 BO (aF (aB aC)) (aK aG) ?_);refine J.GI (aA yP ?_);refine aA (zW IX CJ (yR.at 0 rfl)) ?_;refine aA zQ ?_;refine aA (qq2 (off':=2) DX CJ) ?_;refine aI rfl (AB 1 CJ (aF (aF (aB (aB (aB aC))))) (aK aG) ?_);refine aZ (aQ (aT (aU aV)) ?_);refine aX rfl rfl ?_;have A:=(zD (fun l=>aW l (aN s i)) N).trans (show aW [] (aN s i)=(⟨0,[],aN s i⟩,0) from rfl);have G:=WL A;rw[G];refine⟨rfl,?_⟩;simp[ZO,str]
 have ah:=DU a7;obtain⟨c,r,rfl⟩:∃c r,rest=c::r:=by
  cases rest with
  |nil=>cases a7
  |cons c r=>exact⟨c,r,rfl⟩
 have aq:(c::r).length=r.length+1:=rfl;refine Cj.sr (aA yP ?_);refine aA (GK rfl rfl rfl BU oM rfl) ?_;refine aA DW ?_;refine aA yQ ?_;refine J.cd (fun a8=>?_) (fun a8=>?_)
 ·have ai:=DF a8;have a9:c=34:=a9N (d:=34) (DF a8);subst a9;refine Cj.sr (aA (qq2 (off':=0) DV EM) ?_);refine aI rfl (AB 0 EM (aB aC) aG ?_);refine J.GI (aA yP ?_);refine aA yP ?_;refine J.pull Pull.z ?_;refine aI rfl (yT (H1:=[_]) rfl rfl rfl rfl rfl (b4C _ (34::r) _ _ _ _ sI oM _) ?_ (fun _ _ _ _ h=>by rcases h with h|h<;>cases h.2.1) (fun _ _ h=>by rcases h with h|h<;>cases h.2.1));intro _ _ _ _ aj;rcases aj with⟨hq,h1,h2⟩|⟨hq,h1,h2⟩
  ·subst h2;cases h1;have ab:=(a5o r (aN s i)).2 hq;have ar:=b3d (34::r);refine aA yQ ?_;refine J.nb (aP (Cj.sr (aA (qq2 (off':=0) DV EM) ?_)));refine aA (yV JW (yR.at 0 rfl)) ?_;refine aA DW ?_;refine aA yP ?_;refine CO 3 85 false (zK (qq2 (off':=0) DV EM) ?_);refine CO 3 85 false (zK (yV JW (yR.at 0 rfl)) ?_);refine CO 3 85 false (zK DW ?_);refine aA (ET rfl rfl rfl rfl) ?_;refine J.c0 (fun _=>?_);refine Cj.ks (Cj.sr (aA yP ?_));refine aA zQ ?_;refine aA (qq2 (off':=1) DX BO) ?_;refine aA (yV FY (yR.at 1 rfl)) ?_;refine aA yP ?_;refine aA (KE rfl rfl rfl) ?_;refine bC 99 rfl (show _=i64 ((aY (34::r) 0).2:Nat) from(by first|(congr 1;done)|(congr 1;rw[zF oM]))) ?_;refine aA (yY rfl rfl rfl (zV oM)) ?_;refine aA zQ ?_;refine aA (qq2 (off':=1) DX BO) ?_;refine aI rfl (AB 1 BO (aF (aB aC)) (aK aG) ?_);refine J.GI (aA yP ?_);refine aA (zW IX CJ (yR.at 0 rfl)) ?_;refine aA zQ ?_;refine aA (qq2 (off':=2) DX CJ) ?_;refine aI rfl (AB 1 CJ (aF (aF (aB (aB (aB aC))))) (aK aG) ?_);refine aZ (aQ (aT (aU aV)) ?_);refine aX rfl rfl ?_;have A:=(zD (fun l=>aW l (aN s i)) N).trans ab;have G:=WL A;rw[G];refine⟨rfl,?_⟩;simp[ZO,str]
  subst h2;cases h1;have ab:=(a5o r (aN s i)).1 hq;refine aA yQ ?_;refine J.nb (aP (Cj.sr (aA (qq2 (off':=0) DV EM) ?_)));refine aA (yV JW (yR.at 0 rfl)) ?_;refine aA DW ?_;refine aA yP ?_;refine CO 3 85 false (zK (qq2 (off':=0) DV EM) ?_);refine CO 3 85 false (zK (yV JW (yR.at 0 rfl)) ?_);refine CO 3 85 false (zK DW ?_);refine aA (ET rfl rfl rfl rfl) ?_;refine J.c0 (fun _=>?_);refine Cj.ks (Cj.sr (aA yP ?_));refine aA zQ ?_;refine aA (qq2 (off':=1) DX BO) ?_;refine aA (yV FY (yR.at 1 rfl)) ?_;refine aA yP ?_;refine aA (KE rfl rfl rfl) ?_;refine bC 99 rfl (show _=i64 ((34::r:List UInt8).length:Nat) from(by first|(congr 1;done)|(congr 1;rw[zF oM]))) ?_;refine aA (yY rfl rfl rfl (zV oM)) ?_;refine aA zQ ?_;refine aA (qq2 (off':=1) DX BO) ?_;refine aI rfl (AB 1 BO (aF (aB aC)) (aK aG) ?_);refine J.GI (aA yP ?_);refine aA (zW IX CJ (yR.at 0 rfl)) ?_;refine aA zQ ?_;refine aA (qq2 (off':=2) DX CJ) ?_;refine aI rfl (AB 1 CJ (aF (aF (aB (aB (aB aC))))) (aK aG) ?_);refine aZ (aQ (aT (aU aV)) ?_);refine aX rfl rfl ?_;have A:=(zD (fun l=>aW l (aN s i)) N).trans ab;have G:=WL A;rw[G];refine⟨rfl,?_⟩;simp[ZO,str]
 have ai:=DU a8;have a9:c≠34:=a6Z (d:=34) (DU a8);refine aP (Cj.sr (aA yP ?_));refine aI rfl (yU rfl rfl rfl rfl rfl (a3c _ _ _) ?_);refine aA yQ ?_;refine J.cd (fun a4=>?_) (fun a4=>?_)
 ·have Z:[61,61].isPrefixOf (c::r)=true:=a4;have ad:=b3q Z;refine Cj.ks (Cj.cond rfl (fun ac=>?_) (fun ac=>Bool.noConfusion (Eq.trans (Eq.symm a4) ac)));refine aH (aA (qq2 (off':=0) DV EM) ?_);refine aI rfl (AB 0 EM (aB aC) aG ?_);refine aA yQ ?_;refine J.nb (aP (Cj.sr (aA (qq2 (off':=0) DV EM) ?_)));refine aA (yV JW (yR.at 0 rfl)) ?_;refine aA DW ?_;refine aA yP ?_;refine EJ 3 85 86 false ?_;refine EJ 3 85 87 false ?_;refine EJ 3 85 88 false ?_;refine aA (EH rfl rfl rfl rfl) ?_;refine J.c1 (fun _=>?_);refine aH (aA yP ?_);refine aA yP ?_;refine aA (EC (p:=0) (q:=2) rfl rfl BU rfl ⟨_,rfl⟩ oM (by first|omega|(simp only[aS];omega))) ?_;refine aA (qq2 (off':=1) DV zS) ?_;refine aI rfl (AB 0 zS (aF (aB aC)) aG ?_);refine J.yX (aA yP ?_);refine aA zQ ?_;refine aA (qq2 (off':=1) DX BO) ?_;refine aA (yV FY (yR.at 1 rfl)) ?_;refine aA yP ?_;refine aA (KE rfl rfl rfl) ?_;refine bC 99 rfl (show _=i64 (2:Nat) from rfl) ?_;refine aA (yY rfl rfl rfl (zV oM)) ?_;refine aA zQ ?_;refine aA (qq2 (off':=1) DX BO) ?_;refine aI rfl (AB 1 BO (aF (aB aC)) (aK aG) ?_);refine J.GI (aA yP ?_);refine aA (zW IX CJ (yR.at 0 rfl)) ?_;refine aA zQ ?_;refine aA (qq2 (off':=2) DX CJ) ?_;refine aI rfl (AB 1 CJ (aF (aF (aB (aB (aB aC))))) (aK aG) ?_);refine aZ (aQ (aT (aU aV)) ?_);refine aX rfl rfl ?_;have A:=(zD (fun l=>aW l (aN s i)) N).trans (b9a _ Z);have G:=WL A;rw[G];refine⟨rfl,?_⟩;simp[ZO,str]
 have Z:[61,61].isPrefixOf (c::r)=false:=a4;refine aH (aA yP ?_);refine aI rfl (yU rfl rfl rfl rfl rfl (a3c _ _ _) ?_);refine aA yQ ?_;refine J.cd (fun aa=>?_) (fun aa=>?_)
 ·have O:[62,61].isPrefixOf (c::r)=true:=aa;have ad:=b3q O;refine aH (aA (qq2 (off':=0) DV EM) ?_);refine aI rfl (AB 0 EM (aB aC) aG ?_);refine aA yQ ?_;refine J.nb (aP (Cj.sr (aA (qq2 (off':=0) DV EM) ?_)));refine aA (yV JW (yR.at 0 rfl)) ?_;refine aA DW ?_;refine aA yP ?_;refine EJ 3 85 86 false ?_;refine EJ 3 85 87 false ?_;refine EJ 3 85 88 false ?_;refine aA (EH rfl rfl rfl rfl) ?_;refine J.c1 (fun _=>?_);refine aH (aA yP ?_);refine aA yP ?_;refine aA (EC (p:=0) (q:=2) rfl rfl BU rfl ⟨_,rfl⟩ oM (by first|omega|(simp only[aS];omega))) ?_;refine aA (qq2 (off':=1) DV zS) ?_;refine aI rfl (AB 0 zS (aF (aB aC)) aG ?_);refine J.yX (aA yP ?_);refine aA zQ ?_;refine aA (qq2 (off':=1) DX BO) ?_;refine aA (yV FY (yR.at 1 rfl)) ?_;refine aA yP ?_;refine aA (KE rfl rfl rfl) ?_;refine bC 99 rfl (show _=i64 (2:Nat) from rfl) ?_;refine aA (yY rfl rfl rfl (zV oM)) ?_;refine aA zQ ?_;refine aA (qq2 (off':=1) DX BO) ?_;refine aI rfl (AB 1 BO (aF (aB aC)) (aK aG) ?_);refine J.GI (aA yP ?_);refine aA (zW IX CJ (yR.at 0 rfl)) ?_;refine aA zQ ?_;refine aA (qq2 (off':=2) DX CJ) ?_;refine aI rfl (AB 1 CJ (aF (aF (aB (aB (aB aC))))) (aK aG) ?_);refine aZ (aQ (aT (aU aV)) ?_);refine aX rfl rfl ?_;have A:=(zD (fun l=>aW l (aN s i)) N).trans (c2p _ O);have G:=WL A;rw[G];refine⟨rfl,?_⟩;simp[ZO,str]
 have O:[62,61].isPrefixOf (c::r)=false:=aa;refine Cj.sr (aA yP ?_);refine aA (GK rfl rfl rfl BU oM rfl) ?_;refine aA DW ?_;refine aA yQ ?_;refine J.cd (fun hc20=>?_) (fun hc20=>?_)
 ·have ae:=DF hc20;have a1:c=62:=a9N (d:=62) (DF hc20);subst a1;have a1:(62:UInt8)=62:=rfl;refine aH (aA (qq2 (off':=0) DV EM) ?_);refine aI rfl (AB 0 EM (aB aC) aG ?_);refine J.nb (aP (Cj.sr (aA (qq2 (off':=0) DV EM) ?_)));refine aA (yV JW (yR.at 0 rfl)) ?_;refine aA DW ?_;refine aA yP ?_;refine CO 3 85 false (zK (qq2 (off':=0) DV EM) ?_);refine CO 3 85 false (zK (yV JW (yR.at 0 rfl)) ?_);refine CO 3 85 false (zK DW ?_);refine aA (ET rfl rfl rfl rfl) ?_;refine J.c0 (fun _=>?_);refine Cj.ks (Cj.sr (aA yP ?_));refine aA zQ ?_;refine aA (qq2 (off':=1) DX BO) ?_;refine aA (yV FY (yR.at 1 rfl)) ?_;refine aA yP ?_;refine aA (KE rfl rfl rfl) ?_;refine bC 99 rfl (show _=i64 (0:Nat) from(by rw[c1T];rfl)) ?_;refine aA (yY rfl rfl rfl (zV oM)) ?_;refine aA zQ ?_;refine aA (qq2 (off':=1) DX BO) ?_;refine aI rfl (AB 1 BO (aF (aB aC)) (aK aG) ?_);refine J.GI (aA yP ?_);refine aA (zW IX CJ (yR.at 0 rfl)) ?_;refine aA zQ ?_;refine aA (qq2 (off':=2) DX CJ) ?_;refine aI rfl (AB 1 CJ (aF (aF (aB (aB (aB aC))))) (aK aG) ?_);refine aZ (aQ (aT (aU aV)) ?_);refine aX rfl rfl ?_;have A:=(zD (fun l=>aW l (aN s i)) N).trans (c1m _ a1 O);have G:=WL A;rw[G];refine⟨rfl,?_⟩;simp[ZO,str]
 have ae:=DU hc20;have a1:c≠62:=a6Z (d:=62) (DU hc20);refine Cj.sr (aA yP ?_);refine aA DW ?_;refine aA yQ ?_;refine J.cd (fun a2=>?_) (fun a2=>?_)
 ·have af:=DF a2;have a5:bM (c::r) breaks=0:=DF a2;refine aH (aA (qq2 (off':=0) DV EM) ?_);refine aI rfl (AB 0 EM (aB aC) aG ?_);refine aA yQ ?_;refine J.nb (aP (Cj.sr (aA (qq2 (off':=0) DV EM) ?_)));refine aA (yV JW (yR.at 0 rfl)) ?_;refine aA DW ?_;refine aA yP ?_;refine EJ 3 85 86 false ?_;refine EJ 3 85 87 false ?_;refine EJ 3 85 88 false ?_;refine aA (EH rfl rfl rfl rfl) ?_;refine J.c1 (fun _=>?_);refine aH (aA yP ?_);refine aA yP ?_;refine aA (EC (p:=0) (q:=1) rfl rfl BU rfl ⟨_,rfl⟩ oM (by first|omega|(simp only[aS];omega))) ?_;refine aA (qq2 (off':=1) DV zS) ?_;refine aI rfl (AB 0 zS (aF (aB aC)) aG ?_);refine J.yX (aA yP ?_);refine aA zQ ?_;refine aA (qq2 (off':=1) DX BO) ?_;refine aA (yV FY (yR.at 1 rfl)) ?_;refine aA yP ?_;refine aA (KE rfl rfl rfl) ?_;refine bC 99 rfl (show _=i64 (1:Nat) from rfl) ?_;refine aA (yY rfl rfl rfl (zV oM)) ?_;refine aA zQ ?_;refine aA (qq2 (off':=1) DX BO) ?_;refine aI rfl (AB 1 BO (aF (aB aC)) (aK aG) ?_);refine J.GI (aA yP ?_);refine aA (zW IX CJ (yR.at 0 rfl)) ?_;refine aA zQ ?_;refine aA (qq2 (off':=2) DX CJ) ?_;refine aI rfl (AB 1 CJ (aF (aF (aB (aB (aB aC))))) (aK aG) ?_);refine aZ (aQ (aT (aU aV)) ?_);refine aX rfl rfl ?_;have A:=(zD (fun l=>aW l (aN s i)) N).trans (b8Y _ a9 Z O a1 a5);have G:=WL A;rw[G];refine⟨rfl,?_⟩;simp[ZO,str]
 have af:=DU a2;have a5:bM (c::r) breaks≠0:=DU a2;refine Cj.sr (aA (qq2 (off':=0) DV EM) ?_);refine aI rfl (AB 0 EM (aB aC) aG ?_);refine J.yX (aA yP ?_);refine aA AV ?_;refine J.cd (fun a3=>?_) (fun a3=>?_)
 ·have ag:=BH a3;have ak:=BH a3;have hw:(c::r).takeWhile Cq.plain=c::r:=by rcases a4b (c::r)with h|⟨n,h,_⟩;exact h.2;omega
  refine aH (aA yP ?_);refine aA (CG rfl rfl BU) ?_;refine aA yQ ?_;refine J.nb (aP (Cj.sr (aA (qq2 (off':=0) DV EM) ?_)));refine aA (yV JW (yR.at 0 rfl)) ?_;refine aA DW ?_;refine aA yP ?_;refine CO 3 85 false (zK (qq2 (off':=0) DV EM) ?_);refine CO 3 85 false (zK (yV JW (yR.at 0 rfl)) ?_);refine CO 3 85 false (zK DW ?_);refine aA (ET rfl rfl rfl rfl) ?_;refine J.c1 (fun _=>?_);refine aH (aA yP ?_);refine aA yP ?_;refine aA (EC (p:=0) (q:=(c::r).length) rfl rfl BU rfl ⟨_,rfl⟩ oM (by first|omega|(simp only[aS];omega))) ?_;refine aA (qq2 (off':=1) DV zS) ?_;refine aI rfl (AB 0 zS (aF (aB aC)) aG ?_);refine J.yX (aA yP ?_);refine aA zQ ?_;refine aA (qq2 (off':=1) DX BO) ?_;refine aA (yV FY (yR.at 1 rfl)) ?_;refine aA yP ?_;refine aA (KE rfl rfl rfl) ?_;refine bC 99 rfl (show _=i64 ((c::r).length:Nat) from(by first|(congr 1;done)|(congr 1;rw[zF oM]))) ?_;refine aA (yY rfl rfl rfl (zV oM)) ?_;refine aA zQ ?_;refine aA (qq2 (off':=1) DX BO) ?_;refine aI rfl (AB 1 BO (aF (aB aC)) (aK aG) ?_);refine J.GI (aA yP ?_);refine aA (zW IX CJ (yR.at 0 rfl)) ?_;refine aA zQ ?_;refine aA (qq2 (off':=2) DX CJ) ?_;refine aI rfl (AB 1 CJ (aF (aF (aB (aB (aB aC))))) (aK aG) ?_);refine aZ (aQ (aT (aU aV)) ?_);refine aX rfl rfl ?_;have A:=(zD (fun l=>aW l (aN s i)) N).trans (a8q _ a9 Z O a1 a5);have G:=WL A;rw[G];rw[hw];refine⟨rfl,?_⟩;simp[ZO,str]
 have ag:=BJ a3;have ak:=BJ a3;obtain⟨n,hn,al,hw⟩:∃n:Nat,bM (c::r) breaks=n∧n<(c::r).length∧(c::r).takeWhile Cq.plain=(c::r).take n:=by rcases a4b (c::r)with h|h;omega;exact h
 have am:=al;refine Cj.kb (aP (Cj.sr (aA (qq2 (off':=0) DV EM) ?_)));refine aA (yV JW (yR.at 0 rfl)) ?_;refine aA DW ?_;refine aA yP ?_;refine CO 3 85 false (zK (qq2 (off':=0) DV EM) ?_);refine CO 3 85 false (zK (yV JW (yR.at 0 rfl)) ?_);refine CO 3 85 false (zK DW ?_);refine aA (ET rfl rfl rfl rfl) ?_;refine J.c1 (fun _=>?_);refine aH (aA yP ?_);refine aA yP ?_;refine bC 91 rfl (show _=i64 (n:Nat) from(by rw[hn])) ?_;refine aA (EC (p:=0) (q:=n) rfl rfl BU rfl ⟨_,rfl⟩ oM (by first|omega|(simp only[aS];omega))) ?_;refine aA (qq2 (off':=1) DV zS) ?_;refine aI rfl (AB 0 zS (aF (aB aC)) aG ?_);refine J.yX (aA yP ?_);refine aA zQ ?_;refine aA (qq2 (off':=1) DX BO) ?_;refine aA (yV FY (yR.at 1 rfl)) ?_;refine aA yP ?_;refine bC 98 rfl (show _=i64 (n:Nat) from(by rw[hn])) ?_;refine aA (KE rfl rfl rfl) ?_;refine bC 99 rfl (show _=i64 (n:Nat) from(by first|(congr 1;done)|(congr 1;rw[zF oM]))) ?_;refine aA (yY rfl rfl rfl (zV oM)) ?_;refine aA zQ ?_;refine aA (qq2 (off':=1) DX BO) ?_;refine aI rfl (AB 1 BO (aF (aB aC)) (aK aG) ?_);refine J.GI (aA yP ?_);refine aA (zW IX CJ (yR.at 0 rfl)) ?_;refine aA zQ ?_;refine aA (qq2 (off':=2) DX CJ) ?_;refine aI rfl (AB 1 CJ (aF (aF (aB (aB (aB aC))))) (aK aG) ?_);refine aZ (aQ (aT (aU aV)) ?_);refine aX rfl rfl ?_;have A:=(zD (fun l=>aW l (aN s i)) N).trans (a8q _ a9 Z O a1 a5);have G:=WL A;rw[G];rw[hw];refine⟨rfl,?_⟩;simp[ZO,str,show min n (r.length+1)=n from Nat.min_eq_left oM]
def a4f (p e:Nat):List PanicEntry:=[{ v:= .iface 175 (.agg #[i64 p,i64 e]),recovered:=false }]
def PH (pb:Nat) (s:List UInt8) (i:Nat) (t:Cq.Tok) (deep:Nat):HL:=[(pb,yZ 184 (str s::i64 i::ZO t [i64 deep]))]
theorem SH x t (h:Nat) I:yS bF 96 [x,b5o t,i64 h] I [] (fun e A H'=>e= .panicked (a4f t.pos h)∧H'=[]):=by
 refine yS.ob func96 ?_;intro w0 _;refine Cj.sr (aI rfl (BG ?_));intro _ _;refine J.GI (aA (qq2 (off':=2) DV BO) ?_);refine aA (yV FY (yR.at 0 rfl)) ?_;refine aA yP ?_;refine aA (BD (pl:= #[(0,1),(1,1)]) rfl rfl zeroValue175 rfl a6r (fun w=>by simp[BO,a0Q]) (cO rfl rfl rfl (aB aC) (cO rfl rfl rfl (aF (aB aC)) KP.none))) ?_;refine aA (a3s rfl rfl a6r rfl) ?_;refine aI rfl (b8X rfl rfl ?_)
 skip
 refine bH ?_;refine dF rfl ?_;exact rT
theorem c4R A s i t deep y I:yS bF 244 [ptr A 0,str y] I (PH A s i t deep) (fun e G H'=>e= .returned (.bool (t.kind == 1 && t.text == y))∧H'=PH A s i t deep):=by
 refine yS.ob func244 ?_;intro w0 _;refine Cj.sr (aA yQ ?_);refine J.yX (aA yP ?_);refine aA zQ ?_;refine aA (qq2 (off':=2) DX CJ) ?_;refine aA (qq2 (off':=2) DV EM) ?_;refine aA (yV JW (yR.at 0 rfl)) ?_;refine aA DW ?_;refine aA yP ?_;refine J.split 11 rfl (fun h=>?_) (fun h=>?_)
 ·refine zU 6 11 true h (zK yP ?_);refine zU 6 11 true h (zK zQ ?_);refine zU 6 11 true h (zK (qq2 (off':=2) DX CJ) ?_);refine zU 6 11 true h (zK (qq2 (off':=3) DV zS) ?_);refine zU 6 11 true h (zK (yV BR (yR.at 0 rfl)) ?_);refine zU 6 11 true h (zK yP ?_);refine zU 6 11 true h (zK IW ?_);refine aA (EO h) ?_;refine aA yQ ?_;refine J.ns (bJ (zM ?_));refine⟨?_,rfl⟩
  simp_all[nb1]
 refine AP 6 11 12 true h ?_;refine AP 6 11 13 true h ?_;refine AP 6 11 14 true h ?_;refine AP 6 11 15 true h ?_;refine AP 6 11 16 true h ?_;refine AP 6 11 17 true h ?_;refine AP 6 11 18 true h ?_;refine aA (ED h) ?_;refine aA yQ ?_;refine J.ns (bJ (zM ?_));refine⟨?_,rfl⟩
 simp_all[nb1]
theorem RP x t (hx:t.text.length≤1000000000) I (Z:Tabs I):yS bF 195 [x,b5o t] I [] (fun e I' H'=>if aO t then e= .returned (str t.text)∧H'=[]else e= .panicked (a4f t.pos 40)∧H'=[]):=by
 refine yS.ob func195 ?_;intro w0 _;refine Cj.sr (aI rfl (BG ?_));intro _ _;refine aA yQ ?_;refine J.zX (aH (aA (qq2 (off':=0) DV EM) ?_));refine aA (yV JW (yR.at 0 rfl)) ?_;refine aA (GH rfl rfl rfl) ?_;refine aA yP ?_;refine J.split 8 rfl (fun A=>?_) (fun A=>?_)
 rotate_left
 ·have a4:t.kind=3:=by have:=DI A;omega
  refine AP 3 8 9 true A ?_;refine AP 3 8 10 true A ?_;refine AP 3 8 11 true A ?_;refine aA (ED A) ?_;refine aA yP ?_;refine CO 8 13 false (zK (zW IX CJ (yR.at 0 rfl)) ?_);refine J.KY 8 13 false _ rfl rfl rfl rfl (yU rfl rfl rfl rfl rfl (WE _ oM _ Z) ?_);refine CO 8 13 false (zK (NV rfl rfl rfl) ?_);refine aA (ET rfl rfl rfl rfl) ?_;refine J.cd (fun N=>?_) (fun N=>?_)
  ·have a0:=BH N;have Q:aO t=false:=by have:=BH N;simp[aO];omega
   refine aH (aA yP ?_);refine aA (zW IX CJ (yR.at 0 rfl)) ?_;refine aI rfl (yT (H1:=[]) rfl rfl rfl rfl rfl (SH _ _ _ _) (fun _ _ _ _ h=>by cases h.1) ?_ (fun _ _ h=>by cases h.1));intro _ _ _ a1 a6;have Z:=Z.mono a1;obtain⟨h,rfl⟩:=a6;cases h;refine bT ?_;refine bH ?_;refine dF rfl ?_;exact(zF (by rw[Q];decide)).mpr rT
  have a0:=BJ N;have Q:aO t=true:=by have:=BJ N;simp[aO];omega
  refine Cj.ks (Cj.sr (aA (qq2 (off':=1) DV zS) ?_));refine aA (yV BR (yR.at 0 rfl)) ?_;refine aA yQ ?_;refine J.ns (bJ (bH ?_));refine zM ?_;exact(zG Q).mpr rT
 have a4:t.kind≠3:=by have:=bne_iff_ne.1 A;omega
 refine zU 3 8 true A (zK (qq2 (off':=0) DV EM) ?_);refine zU 3 8 true A (zK (yV JW (yR.at 0 rfl)) ?_);refine zU 3 8 true A (zK (GH rfl rfl rfl) ?_);refine aA (EO A) ?_;refine aA yP ?_;refine J.split 13 rfl (fun G=>?_) (fun G=>?_)
 ·have a5:t.kind≠2:=by have:=bne_iff_ne.1 G;omega
  have Q:aO t=false:=by simp[aO,a5,a4]
  refine AP 8 13 14 false G ?_;refine AP 8 13 15 false G ?_;refine AP 8 13 16 false G ?_;refine aA (EO G) ?_;refine J.c1 (fun _=>?_);refine aH (aA yP ?_);refine aA (zW IX CJ (yR.at 0 rfl)) ?_;refine aI rfl (yT (H1:=[]) rfl rfl rfl rfl rfl (SH _ _ _ _) (fun _ _ _ _ h=>by cases h.1) ?_ (fun _ _ h=>by cases h.1));intro _ _ _ a7 a9;have Z:=Z.mono a7;obtain⟨h,rfl⟩:=a9;cases h;refine bT ?_;refine bH ?_;refine dF rfl ?_;exact(zF (by rw[Q];decide)).mpr rT
 have a5:t.kind=2:=by have:=DI G;omega
 refine zU 8 13 false G (zK (zW IX CJ (yR.at 0 rfl)) ?_);refine J.KY 8 13 false _ rfl rfl rfl G (yU rfl rfl rfl rfl rfl (WE _ oM _ Z) ?_);refine zU 8 13 false G (zK (NV rfl rfl rfl) ?_);refine aA (ED G) ?_;refine J.cd (fun O=>?_) (fun O=>?_)
 ·have a2:=BH O;have Q:aO t=false:=by have:=BH O;simp[aO];omega
  refine aH (aA yP ?_);refine aA (zW IX CJ (yR.at 0 rfl)) ?_;refine aI rfl (yT (H1:=[]) rfl rfl rfl rfl rfl (SH _ _ _ _) (fun _ _ _ _ h=>by cases h.1) ?_ (fun _ _ h=>by cases h.1));intro _ _ _ a3 a8;have Z:=Z.mono a3;obtain⟨h,rfl⟩:=a8;cases h;refine bT ?_;refine bH ?_;refine dF rfl ?_;exact(zF (by rw[Q];decide)).mpr rT
 have a2:=BJ O;have Q:aO t=true:=by have:=BJ O;simp[aO];omega
 refine Cj.ks (Cj.sr (aA (qq2 (off':=1) DV zS) ?_));refine aA (yV BR (yR.at 0 rfl)) ?_;refine aA yQ ?_;refine J.ns (bJ (bH ?_));refine zM ?_;exact(zG Q).mpr rT
end Go.Proofs.YtdjkhllhakhjbaaGreatDoor
namespace Cq
theorem b6H rest j:(head rest j).1.text.length≤rest.length:=by
 cases rest with
 |nil=>simp[head]
 |cons c r=>
  unfold head
  by_cases h34:c=34
  ·simp only[h34,if_true];cases hq:quoted r with
   |none=>simp
   |some q=>have:=XG _ r q (Nat.le_refl _) hq;simp;omega
  simp only[h34,if_false]
  split
  ·rename_i h
   have:r≠[]:=fun A=>by simp[A]at h
   have:=bI.2 this;simp;omega
  split
  ·rename_i h
   have:r≠[]:=fun A=>by simp[A]at h
   have:=bI.2 this;simp;omega
  split
  ·simp
  split
  ·exact(List.takeWhile_sublist _).length_le
  simp
theorem ZH s:∀f i,i≤s.length→s.length-i<f→ZV (toks s f i)∧(toks s f i).length≤s.length+1-i∧∀t∈toks s f i,t.text.length≤s.length
 |0,i,_,h=>oM
 |f+1,i,hi,hf=>by
  have A:(lex s i).1.text.length≤s.length:=by
   have:=b6H (s.drop (skip s i)) (skip s i);simp only[lex];simp at this;omega
  simp only[toks];cases ho:over (lex s i).1 with
  |true=>exact⟨⟨[],_,rfl,ho⟩,by simp;omega,by simpa using A⟩
  |false=>
   have G:=a4L s i hi ho;obtain⟨⟨l,x,N,O⟩,_,Q⟩:=ZH s f _ G.2 oM;simp only[bP,if_false];exact⟨⟨_::l,x,by rw[N];rfl,O⟩,by simp;omega,fun t h=>(List.mem_cons.1 h).elim (fun h=>h▸A) (Q t)⟩
end Cq
namespace Cq
def Cur (s:List UInt8) (i:Nat) (t:Tok) (ts:List Tok):Prop:=∃j,j≤s.length∧lex s j=(t,i)∧a7b s j=ts
theorem Cur.start s:Cur s (lex s 0).2 (lex s 0).1 (tokens s):=⟨0,Nat.zero_le _,rfl,rfl⟩
section
variable {s:List UInt8} {i:Nat} {t:Tok} {ts:List Tok}
theorem Cur.good(h:Cur s i t ts):ZV ts:=by
 obtain⟨j,A,_,rfl⟩:=h;exact(ZH s _ j A oM).1
theorem Cur.txt(h:Cur s i t ts):t.text.length≤s.length:=by
 obtain⟨j,A,G,rfl⟩:=h;refine(ZH s (s.length+1-j) j A oM).2.2 t ?_;show t∈a7b s j;rw[a5J s j A,G]
 split<;>simp
theorem Cur.cons(h:Cur s i t ts):∃r,ts=t::r:=by
 obtain⟨j,A,G,rfl⟩:=h;rw[a5J s j A,G]
 split
 ·exact⟨_,rfl⟩
 exact⟨_,rfl⟩
theorem Cur.next{r}(h:Cur s i t (t::r))(O:over t=false):i≤s.length∧Cur s (lex s i).2 (lex s i).1 r:=by
 obtain⟨j,Q,A,G⟩:=h;have N:=a4L s j Q (by rw[A];exact O);rw[A]at N;rw[a5J s j Q,A]at G;simp only[O,bP,if_false,List.cons.injEq,true_and]at G;exact⟨N.2,i,N.2,rfl,G⟩
theorem Cur.len(h:Cur s i t ts):ts.length≤s.length+1:=by
 obtain⟨j,A,_,rfl⟩:=h;have:=(ZH s (s.length+1-j) j A oM).2.1;show(toks s (s.length+1-j) j).length≤_;omega
