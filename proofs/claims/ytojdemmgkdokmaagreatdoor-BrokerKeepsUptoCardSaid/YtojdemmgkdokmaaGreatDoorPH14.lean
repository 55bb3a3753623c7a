/-
  Own texts on the laws of the seat, joined: the logic, and contracts of functions. Conditions: none.
-/
import Derived.Test.YtojdemmgkdokmaaGreatDoorNmH
import Derived.Test.YtojdemmgkdokmaaGreatDoorPH13
set_option linter.all false
set_option maxRecDepth 100000
set_option maxHeartbeats 40000000
open Go.Sx.J renaming z -> aA,op -> aF,eqv -> dR,nil -> dS,perm -> gJ,split -> gW
open Go.Sx.JA renaming tk -> aB,fix -> dK,eqv -> dV,stepG -> eF,tkG -> fC
open Go.Sx.zM renaming c -> aC,z -> aJ,s -> aO
open Go.Utf8 renaming encode -> aG,decode -> bM,valid -> dY
open Go.Sx.Cj renaming region -> aH,seq -> aQ,ret -> aY,cond -> bQ,block -> bY,FT -> dQ,loop -> gQ
open Go.Sx.AV renaming z -> aI,s -> aX
open Go.Proofs.Tryz renaming prog -> aK
open Bool renaming noConfusion -> aN,eq_iff_iff -> eU,false_eq_true -> fP
open Go.Lib renaming indexAny -> aP,decodeL -> dL,trimLeftS -> dM,indexByte -> dW,contains_iff_indexByte -> dX,encodeRune -> fB,idxOfS -> gG,NoAny -> gY,validRune -> iE,mapD_step -> iF
open Cq renaming skip -> aS,head -> aT,small -> aU,OE -> aV,operator -> bD,plain -> bJ,isTerm -> bP,relations -> cO,relation -> eY,low -> fA,Tok -> fM,blank -> fZ,lex -> iJ
open Go.Sx.Le renaming refl -> aW,trans -> bU
open Go.Sx.CG renaming one -> aZ,none -> gZ
open Eq renaming trans -> bC,symm -> bT
open Go.Sx.HSub renaming n -> bF,c -> bV
open Go.Sx.CSub renaming n -> bG,c -> fO
open Go.Sx.Ej renaming bare -> bH,keep -> cZ,QL -> dA,TK -> dN,seq -> dU,LM -> eP,round -> fF,FN -> fJ,JU -> fV,OX -> gB,persist -> gI,KH -> gK,pan -> iK
open List renaming contains_iff_mem -> bI,isPrefixOf -> bW,length_cons -> dD,getElem?_eq_some_iff -> dF,length_drop -> eG,take_length -> eH,take_of_length_le -> eX,perm_append_comm -> fD,length_pos_iff -> fH,tail_cons -> gU,drop_one -> iG,mem_cons -> iH,contains -> iI
open Go.Sx.Enters renaming of -> bK
open Go.Sx.Pure renaming of_same -> bZ,of_below -> fG
open Go.Value renaming bool -> dB
open Go.Sx.Keeps renaming d -> dG,k -> dH,n -> dI
open ByteArray renaming getElem_eq_getElem_data -> dJ,data -> gX
open Nat renaming lt_or_ge -> dP,zero_add -> fK,le_refl -> fU
open Go.Sx.yR renaming QE -> dZ
open Go.Sx.yT renaming toPure -> fE,still -> iC
open Go.Sx.SC renaming cell -> fQ
open Go.Sx.GN renaming part -> iD
namespace Go.Proofs.YtojdemmgkdokmaaGreatDoor
open _root_.Go.Proofs.Tryz
open Go Go.Sx
theorem IY(l:List UInt8):(⟨l.toArray⟩:ByteArray).data.toList=l:=sI
theorem b0J(r:Int)(h:iE r=true):dY r=true:=by
 unfold iE at h;unfold dY;simp at h ⊢;omega
theorem b0L(r:Int)(I:Heap):∃b,Pure aK 275 [.int .i32 r] I (.bool b)∧(b=true→dY r=true):=
 ⟨_,bZ (bK func275 dE rfl) fun w _=>Tryz.utf8_ValidRune r w,b0J r⟩
theorem b0E(l:List UInt8)(c:UInt8)(I:Heap):Pure aK 170 [str l,u8 c] I (i64 (dW l c)):=
 bZ (bK func170 dE rfl) fun w _=>by
  have h:=Tryz.strings_IndexByte ⟨l.toArray⟩ c.toNat w;have e:((c.toNat:Int)).toNat.toUInt8=c:=sI;rw[IY,e]at h;exact h
theorem a7H{l:List UInt8}{c:UInt8}(h:∀d∈l,d.toNat<128)(O:128≤c.toNat):dW l c= -1:=by
 induction l with
 |nil=>rfl
 |cons d l A=>
  have hd:=h d (.head _);have hn:(d == c)=false:=by rw[beq_eq_false_iff_ne];intro e;subst e;omega
  rw[dW,hn,A fun x G=>h x (.tail _ G)];rfl
theorem b8V{r:Int}(G:dY r=true)(A:128≤r):2≤(aG r).data.toList.length∧(aG r).data.toList.length≤4∧∃c,(aG r).data.toList[(aG r).data.toList.length-1]?=some c∧128≤c.toNat:=by
 obtain⟨h1,h2,h3⟩:=encode_facts r G A;have hs:(aG r).data.toList.length=(aG r).size:=rfl;rw[hs];have h:(aG r).size-1<(aG r).size:=oM;exact⟨h1,h2,_,Lib.data_getElem? (aG r) _ h,h3 h⟩
theorem a3c{l:List UInt8}{i:Nat}{c:UInt8}(h:l[i]?=some c)(O:c.toNat<128):bM ⟨l.toArray⟩ i=(c.toNat,1):=by
 obtain⟨A,hg⟩:=dF.1 h;have hs:i<(⟨l.toArray⟩:ByteArray).size:=by rw[size_mk];exact A
 have G:(⟨l.toArray⟩:ByteArray)[i]'hs=c:=by simp[dJ,hg]
 rw[decode_ascii _ _ hs (by rw[G];exact O),G]
theorem a7U(h:List UInt8)(a0:∀c∈h,c.toNat<128)(h4:4≤h.length)(aj:h.length≤1000000)(r:Int)(ad:128≤r)(hr:r≤2147483647)(I:Heap):Pure aK 214 [str h,.int .i32 r] I (i64 (-1)):=by
 refine fE ?_;obtain⟨_,a3⟩:=b0L r I;refine yT.ob func214 ?_;intro w0 _;refine Cj.sr (aA yQ ?_);refine J.ns (bY (Cj.sr (aA yP ?_)));refine aA (WA rfl rfl rfl) ?_;refine aA yP ?_;refine J.QD 2 163 true _ rfl rfl rfl (zI oM) (zK yP ?_);refine J.QD 2 163 true _ rfl rfl rfl (zI oM) (zK BM ?_);refine aA (a3N rfl rfl (zI oM) rfl) ?_;refine aA yQ ?_;refine J.ns (bQ rfl (fun a4=>aN (bC (bT (zJ oM)) a4)) (fun a4=>?_));refine Cj.sr (aA yP ?_);refine aA BO ?_;refine aA yQ ?_;refine J.cd (fun O=>?_) (fun O=>?_)
 ·have ae:=CS O;refine aQ (Cj.sr (aA yP ?_));refine aF rfl (PV rfl rfl rfl rfl BF ?_);intro b3 _;refine J.ns (bY (gQ (ι:=Nat) (fun i=>True) (fun i=>h.length-i) (fun i=>[(0,str h),(1,.int .i32 r),(174,str h),(175,ptr b3 0)]) (fun i=>I) (fun i=>[(b3,.stringIter ⟨h.toArray⟩ i)]) 0 trivial rT rfl rfl ?_));rintro i -;rcases dP i h.length with hp|hp
  ·obtain⟨c,Z⟩:∃c,h[i]?=some c:=⟨_,DX hp⟩;have a5:=a3c Z (a0 c (FB Z));refine Cj.sr (aF rfl (a0a 0 rfl rfl rfl rfl rfl (by rw[size_mk];omega) aI ?_));refine aA AQ ?_;refine J.nss (bQ rfl (fun a8=>?_) (fun a8=>aN (bC (bT rfl) a8)));refine Cj.ks (bY (Cj.sr (aA AQ ?_)));refine aA AQ ?_;refine aA yQ ?_;refine aA yQ ?_;refine J.yV (aA yP ?_);refine aA BO ?_;refine J.ns (bQ rfl (fun a9=>aN (bC (bT (beq_eq_false_iff_ne.2 (by rw[a5];dsimp only;have:=a0 c (FB Z);omega))) a9)) (fun a9=>?_));refine Cj.skip (fJ (fF (i+(bM ⟨h.toArray⟩ i).2) trivial (by rw[a5];dsimp only;omega) rT rfl rfl))

  refine Cj.sr (aF rfl (VK 0 rfl rfl rfl rfl rfl (by rw[size_mk];omega) ?_));refine aA AQ ?_;refine J.nss (bQ rfl (fun aa=>aN (bC (bT rfl) aa)) (fun aa=>?_));refine Cj.xl (Cj.sr (aA yQ ?_));refine J.ns (aY (dA (bH ?_)));refine zN ?_;exact rT
 have ae:=CX O;refine Cj.sr (aA yP ?_);refine aF rfl (yU rfl rfl rfl rfl rfl (a3.1) ?_);refine aA (ER rfl rfl) ?_;refine aA yQ ?_;refine J.cd (fun ab=>?_) (fun ab=>?_)
 ·refine Cj.sr (aA yQ ?_);refine J.ns (aY (dA (zN ?_)));exact rT
 have ah:dY r=true:=a3.2 (by simpa using ab);obtain⟨_,_,c2,a1,O⟩:=b8V ah ad;obtain⟨c1,a2⟩:∃c,h[(aG r).data.toList.length-1]?=some c:=⟨_,DX oM⟩;have a4:=a0 c1 (FB a2);have ai:(c1.toNat:Int)≠c2.toNat:=oM;have af:∀d∈(h.take h.length).drop ((aG r).data.toList.length-1+1),d.toNat<128:=fun d hd=>a0 d (List.mem_of_mem_take (List.mem_of_mem_drop hd));refine Cj.scope ?_;refine Cj.sr (aA yP ?_);refine aA (LW rfl rfl a0Q BF) ?_;refine aA yQ ?_;refine J.yV (aA yP ?_);refine aA (GK BF) ?_;refine aA (IC rfl rfl rfl (AA oM)) ?_;refine aA yQ ?_;refine J.yV (aA yP ?_);refine aA yQ ?_;refine J.yV (aA yQ ?_);refine J.nss (bY (gQ (ι:=Unit) (fun i=>True) (fun i=>0) (fun i=>[(0,str h),(7,str (aG r).data.toList),(8,i64 ((aG r).data.toList.length-1:Int)),(9,i64 ((aG r).data.toList.length-1:Int))]) (fun i=>I) (fun i=>[]) () trivial rT rfl rfl ?_));rintro _ -;refine aQ (Cj.sr (aA yP ?_));refine aA yP ?_;refine aA (GK BF) ?_;refine aA BM ?_;refine J.ns (bQ rfl (fun ac=>?_) (fun ac=>aN (bC (bT (zI oM)) ac)));refine Cj.ks (bY (Cj.scope ?_));refine aQ (aQ (dQ [] [] 7 kR ?_));refine dK BQ (fun G=>?_);refine aB 0 rfl G yP ?_;refine aB 1 rfl G yP ?_;refine aB 2 rfl G (DU rfl rfl rfl BF oM (by rw[show((((aG r).data.toList.length:Int)-1).toNat)=(aG r).data.toList.length-1 by omega];exact a2)) ?_;refine aB 3 rfl G yP ?_;refine aB 4 rfl G yP ?_;refine aB 5 rfl G (DU rfl rfl rfl BF oM (by rw[show((((aG r).data.toList.length:Int)-1).toNat)=(aG r).data.toList.length-1 by omega];exact a1)) ?_;refine aB 6 rfl G EY ?_;refine AL ?_;refine dU (bQ rfl (fun a6=>?_) (fun a6=>aN (bC (bT (bne_iff_ne.2 ai)) a6)));refine aQ (dQ [] [] 9 kR ?_);refine dK BQ (fun A=>?_);refine aB 0 rfl A yP ?_;refine aB 1 rfl A yP ?_;refine aB 2 rfl A (yZ rfl rfl rfl (AA oM)) ?_;refine dV 36 rfl (show _=i64 ((aG r).data.toList.length-1+1:Nat) from(by congr 1;omega)) ?_;refine aB 3 rfl A (CY (p:=(aG r).data.toList.length-1+1) (q:=h.length) rfl rfl BF ⟨_,rfl⟩ rfl oM oM) ?_;refine aB 4 rfl A yP ?_;refine aB 5 rfl A yP ?_;refine aB 6 rfl A (DU rfl rfl rfl BF oM (by rw[show((((aG r).data.toList.length:Int)-1).toNat)=(aG r).data.toList.length-1 by omega];exact a1)) ?_;refine zT 7 rfl (yU rfl rfl rfl rfl rfl (b0E _ _ _) ?_);refine⟨EU,?_⟩;refine dV 41 rfl (show _=i64 (-1) from(by rw[a7H af O])) ?_;refine dK BQ (fun ag=>?_);refine aB 8 rfl ag yQ ?_;refine AL ?_;refine dU (aQ (Cj.sr (aA yP ?_)));refine aA BM ?_;refine J.ns (bQ rfl (fun a7=>?_) (fun a7=>aN (bC (bT (zI oM)) a7)));refine Cj.sr (aA yQ ?_);refine J.ns (Cj.rs (eP (Ej.b1g ?_)));refine dA (gB (dA (eP (Ej.b1g ?_))));refine dA (zN ?_);exact rT
theorem c7t{l:List UInt8}{j:Nat}{d:UInt8}(h:l[j]?=some d):((⟨l.toArray⟩:ByteArray).get! j).toNat=d.toNat:=by
 obtain⟨A,hg⟩:=dF.1 h;show((l.toArray)[j]!).toNat=d.toNat;simp[A,hg]
theorem c0W{l:List UInt8}{i:Nat}{c:UInt8}(h:l[i]?=some c)(A:128≤c.toNat):∀j d,i≤j→j<i+(bM ⟨l.toArray⟩ i).2→l[j]?=some d→128≤d.toNat:=by
 intro j d h1 h2 hd;have h0:∀k,(i+k<l.length∧((⟨l.toArray⟩:ByteArray).get! (i+k)).toNat / 64=2)→j=i+k→128≤d.toNat:=by
  intro k G O;subst O;rw[c7t hd]at G;omega
 by_cases hj:j=i
 ·subst hj;rw[h]at hd;cases hd;exact A
 simp only[bM]at h2;have hs:(⟨l.toArray⟩:ByteArray).size=l.length:=size_mk l
 repeat' split at h2
 all_goals simp only[Bool.and_eq_true,beq_iff_eq,zH,hs]at*
 all_goals first
  |omega
  | (by_cases e1:j=i+1
     ·exact h0 1 (by simp_all) e1
     first
     |omega
     | (by_cases e2:j=i+2
        ·exact h0 2 (by simp_all) e2
        first
        |omega
        |exact h0 3 (by simp_all) oM))
theorem b7x{l A:List UInt8}{i:Nat}{c:UInt8}(O:∀c∈A,c.toNat<128)(hn:gY l A i)(h:l[i]?=some c)(Z:128≤c.toNat):gY l A (i+(bM ⟨l.toArray⟩ i).2):=by
 intro j d hj hd
 by_cases hji:j<i
 ·exact hn j d hji hd
 have:=c0W h Z j d oM hj hd;rw[Bool.eq_false_iff];intro G;have:=O d (bI.1 G);omega
theorem b8P{l:List UInt8}{i:Nat}{c:UInt8}(h:l[i]?=some c)(G:128≤c.toNat):128≤(bM ⟨l.toArray⟩ i).1∧1≤(bM ⟨l.toArray⟩ i).2:=by
 obtain⟨A,hg⟩:=dF.1 h;have hs:i<(⟨l.toArray⟩:ByteArray).size:=by rw[size_mk];exact A
 exact decode_high _ _ hs (by simp[dJ,hg,G])
theorem b3h(n:Int)(I:Heap):Pure aK 239 [i64 n] I (.bool (decide (8<n))):=
 bZ (bK func239 dE rfl) fun w _=>Tryz.strings_shouldUseASCIISet n w
theorem b0D(l:List UInt8)(c:UInt8)(A:c.toNat<128)(I:Heap):Pure aK 214 [str l,.int .i32 (c.toNat:Int)] I (i64 (dW l c)):=
 bZ (bK func214 dE rfl) fun w _=>by
  have h:=Tryz.strings_IndexRune_ascii ⟨l.toArray⟩ c.toNat w oM oM;have e:((c.toNat:Int)).toNat.toUInt8=c:=sI;rw[IY,e]at h;exact h
theorem b0R(s A:List UInt8)(h8:8<s.length)(hs:s.length<4294967281)(G:∀c∈A,c.toNat<128)(h4:4≤A.length)(Z:A.length≤1000000)(I:Heap):Pure aK 181 [str s,str A] I (i64 (aP s A)):=
 fG (bK func181 dE rfl) fun w _=>by
  have h:=Tryz.strings_IndexAny_long zeroValue333 ⟨s.toArray⟩ ⟨A.toArray⟩ w (by rw[size_mk];omega) (by rw[size_mk];omega) (by rw[size_mk];omega) (by rw[size_mk];omega) (fun j b O=>G b (by rw[IY]at O;exact FB O));rw[IY,IY]at h;refine h.mono fun e w' ⟨h1,h2⟩=>⟨h1,?_⟩;subst h2;exact((RowKit.Below.refl _ _).alloc (fU _) _).alloc (by show w.heap.size≤(w.heap.push _).size;rw[Array.size_push];omega) _
theorem nonempty{l:List UInt8}(h:4≤l.length):((l == []):Bool)=false:=by cases l with
 |nil=>simp at h
 |cons a l=>rfl
theorem a9l(s A:List UInt8)(h8:s.length≤8)(a1:∀c∈A,c.toNat<128)(h4:4≤A.length)(a8:A.length≤1000000)(I:Heap):Pure aK 181 [str s,str A] I (i64 (aP s A)):=by
 refine fE ?_;refine yT.ob func181 ?_;intro w0 _;refine Cj.sr (aA yQ ?_);refine J.AO (aH (aA yP ?_));refine aA (ED rfl rfl rfl) ?_;refine J.ns (bQ rfl (fun a2=>aN (bC (bT (nonempty h4)) a2)) (fun a2=>?_));refine Cj.ks (aQ (Cj.sr (aA yP ?_)));refine aA (GK BF) ?_;refine aA BO ?_;refine J.ns (bQ rfl (fun a3=>aN (bC (bT (beq_eq_false_iff_ne.2 oM)) a3)) (fun a3=>?_));refine Cj.ks (aQ (Cj.sr (aA yP ?_)));refine aA (GK BF) ?_;refine aF rfl (yU rfl rfl rfl rfl rfl (b3h _ _) ?_);refine J.ns (bQ rfl (fun a4=>aN (bC (bT (zJ oM)) a4)) (fun a4=>?_));refine Cj.ks (aQ (Cj.sr (aA yP ?_)));refine aF rfl (PV rfl rfl rfl rfl BF ?_);intro b4 _;refine J.ns (bY (gQ (ι:=Nat) (fun i=>gY s A i) (fun i=>s.length-i) (fun i=>[(0,str s),(1,str A),(44,str s),(45,ptr b4 0)]) (fun i=>I) (fun i=>[(b4,.stringIter ⟨s.toArray⟩ i)]) 0 (Lib.NoAny.zero _ _) rT rfl rfl ?_));intro i Z;rcases dP i s.length with hp|hp;obtain⟨c,h⟩:∃c,s[i]?=some c:=⟨_,DX hp⟩;rcases dP c.toNat 128 with hc|hc
 ·have G:=a3c h hc;refine Cj.sr (aF rfl (a0a 0 rfl rfl rfl rfl rfl (by rw[size_mk];omega) aI ?_));refine aA AQ ?_;refine J.nss (bQ rfl (fun a5=>?_) (fun a5=>aN (bC (bT rfl) a5)));refine Cj.ks (bY (Cj.sr (aA AQ ?_)));refine aA AQ ?_;refine dR 49 rfl (show _= .int .i32 (c.toNat:Int) from(by rw[G])) ?_;refine aA yQ ?_;refine aA yQ ?_;refine J.yV (aA yP ?_);refine aA yP ?_;refine aF rfl (yU rfl rfl rfl rfl rfl (b0D A c hc _) ?_);refine aA (MC rfl rfl rfl) ?_;refine J.cd (fun O=>?_) (fun O=>?_)
  ·have a9:=BH O;refine Cj.sr (aA yP ?_);refine aA yQ ?_;refine J.ns (aY (dA (gB (dA (eP (bH ?_))))));refine zN ?_;refine⟨?_,rfl⟩;rw[Lib.indexAny_hit Z h (by rw[dX];exact O)]
  have a9:=BN O;refine Cj.skip (fJ (fF (i+(bM ⟨s.toArray⟩ i).2) (by rw[G];exact Z.succ h (by rw[dX];exact O)) (by rw[G];dsimp only;omega) rT rfl rfl))
 ·have G:=b8P h hc;have aa:=decode_le ⟨s.toArray⟩ i;refine Cj.sr (aF rfl (a0a 0 rfl rfl rfl rfl rfl (by rw[size_mk];omega) aI ?_));refine aA AQ ?_;refine J.nss (bQ rfl (fun a6=>?_) (fun a6=>aN (bC (bT rfl) a6)));refine Cj.ks (bY (Cj.sr (aA AQ ?_)));refine aA AQ ?_;refine aA yQ ?_;refine aA yQ ?_;refine J.yV (aA yP ?_);refine aA yP ?_;refine aF rfl (yU rfl rfl rfl rfl rfl (a7U A a1 h4 a8 _ oM oM _) ?_);refine aA (MC rfl rfl rfl) ?_;refine J.c0 (fun _=>?_);refine Cj.skip (fJ (fF (i+(bM ⟨s.toArray⟩ i).2) (b7x a1 Z h hc) oM rT rfl rfl))
 have a0:aP s A= -1:=Lib.indexAny_none fun j b _ hb=>Z j b oM hb;refine Cj.sr (aF rfl (VK 0 rfl rfl rfl rfl rfl (by rw[size_mk];omega) ?_));refine aA AQ ?_;refine J.nss (bQ rfl (fun a7=>aN (bC (bT rfl) a7)) (fun a7=>?_));refine Cj.xl (Cj.sr (aA yQ ?_));refine J.ns (aY (bH ?_));refine zN ?_;refine⟨?_,rfl⟩;rw[a0]
theorem b4g(s A:List UInt8)(hs:s.length<4294967281)(O:∀c∈A,c.toNat<128)(Z:4≤A.length)(G:A.length≤1000000)(I:Heap):Pure aK 181 [str s,str A] I (i64 (aP s A)):=by
 rcases dP 8 s.length with h|h
 ·exact b0R s A h hs O Z G I
 exact a9l s A h O Z G I
def blanks:List UInt8:=[32,9,10,13]
def breaks:List UInt8:=[32,9,10,13,40,41,34,61,60,62]
theorem b3Y(s:List UInt8)(I:Heap):Pure aK 180 [str s,str blanks] I (str (dM s blanks)):=
 fG (bK func180 dE rfl) fun w _=>by
  have h:=Any.strings_TrimLeft_laid Tryz.lays161 kR ⟨s.toArray⟩ ⟨blanks.toArray⟩ w dE (ascii_of_all dE);rw[IY,IY]at h;exact h
theorem a3W(s p:List UInt8)(I:Heap):Pure aK 56 [str s,str p] I (.bool (p.isPrefixOf s)):=
 bZ (bK func56 dE rfl) fun w _=>by
  have h:=Tryz.strings_HasPrefix ⟨s.toArray⟩ ⟨p.toArray⟩ w;rw[IY,IY]at h;exact h
def Tabs (I:Heap):Prop:=∀w:World,(∀b o,I b=some o→w.heap[b]?=some o)→Lib.Utf8Tabs 4 5 w
theorem Tabs.mono{I A:Heap}(h:Tabs I)(G:Le I A):Tabs A:=fun w O=>h w fun b o Z=>O b o (G b o Z)
def SH (x:Int):Int:=if 65≤x∧x≤90 then x+32 else x
theorem Sx.Pure.below{P:Program}{f:FuncId}{args:List Value}{v:Value}(h:Sx.Pure P f args (fun _=>none) v)(w:World):Calls P f args.toArray w fun e w'=>e= .returned v∧RowKit.Below w.heap.size w w':=
 (h.2 w ⟨fun _ _ h=>(by cases h),fun _ h=>(by cases h),sI,fun _ h=>(by cases h)⟩).mono fun e w' ⟨_,H',hs,h1,_,_⟩=>⟨h1,hs.os,hs.tape,hs.output,hs.size,fun k A=>hs.frm k A sI⟩
def SY (s:List UInt8):List UInt8:=Lib.mapD SH s
theorem decodeL_ascii(c:UInt8)(r:List UInt8)(h:c.toNat<128):dL (c::r)=(c.toNat,1):=a3c (l:=c::r) (i:=0) rfl h
theorem a5I{c:UInt8}(r:List UInt8)(A:c.toNat<128):SY (c::r)=fA c::SY r:=by
 unfold SY;rw[iF _ _ sI,decodeL_ascii c r A];have h0:(0:Int)≤SH c.toNat:=by unfold SH;split<;>omega
 simp only[zG h0,iG,gU];have h1:SH c.toNat=(fA c).toNat:=by
  unfold SH fA
  by_cases h:65≤c.toNat∧c.toNat≤90
  ·rw[zG oM,zG h,UInt8.toNat_add];simp;omega
  rw[zF oM,zF h]
 have h2:(fA c).toNat<128:=by
  have:(0:Int)≤SH c.toNat∧SH c.toNat<128:=by unfold SH;split<;>omega
  omega
 rw[h1,fB,Lib.encodeRuneZ_one oM oM];simp
theorem a4o:∀(s:List UInt8),(∀c∈s,c.toNat<128)→SY s=aU s
 |[],_=>rfl
 |c::r,h=>by rw[a5I r (h c (.head _)),a4o r fun x A=>h x (.tail _ A)];rfl
theorem b3M{r:Int}(h:128≤r):∃c∈fB r,128≤c.toNat:=by
 unfold fB Lib.encodeRuneZ;rw[zF oM]
 split
 ·exact⟨_,by simp;exact .inl rfl,by simp;omega⟩
 split
 ·exact⟨_,by simp;exact .inl rfl,by simp;omega⟩
 split
 ·exact⟨_,by simp;exact .inl rfl,by simp;omega⟩
 exact⟨239,dE,dE⟩
theorem a5R:∀(s:List UInt8),(∃c∈s,128≤c.toNat)→∃c∈SY s,128≤c.toNat
 |[],h=>by obtain⟨c,h,_⟩:=h;cases h
 |c::r,h=>by
  by_cases hc:c.toNat<128
  ·obtain⟨d,hd,O⟩:=h;rcases iH.1 hd with rfl|hd
   ·omega
   obtain⟨x,G,A⟩:=a5R r ⟨d,hd,O⟩;exact⟨x,by rw[a5I r hc];exact .tail _ G,A⟩
  have hh:=b8P (l:=c::r) (i:=0) (c:=c) rfl oM;have Z:SH ((dL (c::r)).1:Int)=(dL (c::r)).1:=by
   unfold SH dL;rw[zF oM]
  unfold SY;rw[iF _ _ sI,Z,zG oM];obtain⟨x,G,A⟩:=b3M (r:=(dL (c::r)).1) (by unfold dL;omega);exact⟨x,List.mem_append_left _ G,A⟩
theorem c3q{c:UInt8}(h:128≤c.toNat):fA c=c:=by unfold fA;rw[zF oM]
theorem XK(s w:List UInt8)(O:∀c∈w,c.toNat<128):SY s=w↔aU s=w:=by
 by_cases h:∀c∈s,c.toNat<128
 ·rw[a4o s h]
 have Z:∃c∈s,128≤c.toNat:=by
  apply Classical.byContradiction;intro hn;apply h;intro c A
  rcases dP c.toNat 128 with h1|h1
  ·exact h1
  exact absurd ⟨c,A,h1⟩ hn
 constructor
 ·intro e;obtain⟨c,A,G⟩:=a5R s Z;have:=O c (e▸A);omega
 intro e;obtain⟨c,A,G⟩:=Z;have:=O c (e▸(c3q G▸List.mem_map_of_mem (f:=fA) A:c∈aU s));omega
theorem RH{l:List (List UInt8)}(A:∀w∈l,∀c∈w,c.toNat<128)(s:List UInt8):l.contains (SY s)=l.contains (aU s)∧(l.contains (aU s)=true→SY s=aU s):=by
 refine⟨?_,fun h=>?_⟩
 ·rw[eU,bI,bI];exact⟨fun h=>(XK s _ (A _ h)).1 rfl▸h,fun h=>(XK s _ (A _ h)).2 rfl▸h⟩
 exact(XK s _ (A _ (bI.1 h))).2 rfl
theorem w32{n:Int}(h: -2147483648≤n∧n≤2147483647):IntKind.i32.wrap n=n:=by
 unfold IntKind.wrap;simp[IntKind.bits,IntKind.signed];omega
theorem c6o(x:Int)(h0:0≤x)(h1:x≤1114111)(I:Heap):Pure aK 297 [.int .i32 x] I (.int .i32 (SH x)):=by
 refine yT.ob func297 ?_;intro w0 _;refine Cj.sr (aA yQ ?_);refine J.AO (aH (aA yP ?_));refine aA (MC rfl rfl rfl) ?_;refine aA yP ?_;refine gW 5 rfl (fun h=>?_) (fun h=>?_)
 rotate_left
 ·have h2:=BN h;have A:SH x=x:=by unfold SH;rw[zF oM]
  refine zO 2 5 6 true h ?_;refine zO 2 5 7 true h ?_;refine aA (DV h) ?_;refine J.c0 (fun _=>?_);refine Cj.ks (Cj.sr (aA yP ?_));refine aA yQ ?_;refine J.ns (aY (zN ?_));rw[A];exact rT
 refine zU 2 5 true h (zK yP ?_);refine zU 2 5 true h (zK (WA rfl rfl rfl) ?_);refine aA (DY h) ?_;refine J.cd (fun G=>?_) (fun G=>?_)
 ·have O:=BH G;have h2:65≤x:=BH h;have h3:x≤90:=BH G;have A:SH x=x+97-65:=by unfold SH;rw[zG ⟨h2,h3⟩];omega
  refine Cj.sr (aA yP ?_);refine aA (yZ rfl rfl rfl (w32 oM)) ?_;refine aA (IC rfl rfl rfl (w32 oM)) ?_;refine aA yQ ?_;refine J.ns (Cj.rs (zN ?_));rw[A];exact rT
 have O:=BN G;have h3:=BN G;have A:SH x=x:=by unfold SH;rw[zF oM]
 refine Cj.ks (Cj.sr (aA yP ?_));refine aA yQ ?_;refine J.ns (aY (zN ?_));rw[A];exact rT
theorem c7a(s:List UInt8)(hs:s.length≤10000000000)(I:Heap)(A:Tabs I):Pure aK 217 [.func (.func 297) #[] #[],str s] I (str (SY s)):=
 fG (bK func217 dE rfl) fun w G=>by
  have h:=Tryz.strings_Map_grows 297 #[] (OH (bK func297 dE rfl)) SH ⟨s.toArray⟩ w (by rw[size_mk];omega)
   (fun W x O _=>Sx.Pure.below (c6o x oM oM _) W) (fun x O=>by unfold SH;split<;>omega) (A w G.1)
  rw[IY]at h;exact h
theorem YH(l:List (List UInt8))(x:List UInt8)(v:Value)(hl:l.length≤1000000)(I:Heap)(G:KI 9 I l v):Pure aK 124 [v,str x] I (.bool (l.contains x)):=by
 obtain⟨b,c,sp,rfl,O⟩:=G;refine bZ (bK func124 dE rfl) fun w Z=>?_;have h:=Tryz.slices_Contains_string b 0 l.length c (l.map fun y=>⟨y.toArray⟩) ⟨x.toArray⟩ w sI oM (fun j A=>by
  rw[fK];simp at A;refine cell_of_heap (Z.1 _ _ O) ?_;rw[JO (x:=l[j]) (DX A)];simp[str,DX A])
 rw[eX sI]at h;have e:Lib.containsS (l.map fun y=>(⟨y.toArray⟩:ByteArray)) ⟨x.toArray⟩=l.contains x:=by
  rw[eU,Lib.containsS_iff,bI,List.mem_map];constructor
  ·rintro⟨y,hy,he⟩;have e:y=x:=by simpa using zD gX he
   exact e▸hy
  exact fun h=>⟨x,h,rfl⟩
 rw[e]at h;exact h
theorem c3n(l:List (List UInt8))(x:List UInt8)(v:Value)(hl:l.length≤1000000)(I:Heap)(G:KI 9 I l v):Pure aK 193 [v,str x] I (i64 (gG (l.map fun y=>⟨y.toArray⟩) ⟨x.toArray⟩)):=by
 obtain⟨b,c,sp,rfl,O⟩:=G;refine bZ (bK func193 dE rfl) fun w Z=>?_;have h:=Tryz.slices_Index_string b 0 l.length c (l.map fun y=>⟨y.toArray⟩) ⟨x.toArray⟩ w sI oM (fun j A=>by
  rw[fK];simp at A;refine cell_of_heap (Z.1 _ _ O) ?_;rw[JO (x:=l[j]) (DX A)];simp[str,DX A])
 rw[eX sI]at h;exact h
def opers:List (List UInt8):=[[97,110,100],[111,114],[110,111,116]]
def TT (x:List UInt8):Int:=if x=[97,110,100]then 0 else if x=[111,114]then 1 else if x=[110,111,116]then 2 else -1
theorem ba_eq(x y:List UInt8):((⟨x.toArray⟩:ByteArray)=⟨y.toArray⟩)=(y=x):=by
 apply propext;constructor
 ·intro h;have:=zD gX h;simpa using this.symm
 rintro rfl;rfl
theorem c3j(x:List UInt8):gG (opers.map fun y=>⟨y.toArray⟩) ⟨x.toArray⟩=TT x:=by
 unfold gG opers TT;simp only[List.map_cons,List.map_nil,Lib.idxFromS,ba_eq];rfl
theorem b3O(s:List UInt8):TT (SY s)=TT (aU s):=by
 unfold TT;simp only[XK s [97,110,100] dE,XK s [111,114] dE,XK s [110,111,116] dE]
theorem a8w(t:fM)(h:t.kind=3):(TT (aU t.text)<0→bD t=0)∧(0≤TT (aU t.text)→(bD t:Int)=2+TT (aU t.text))∧TT (aU t.text)≤2:=by
 by_cases h1:aU t.text=[97,110,100]
 ·simp[TT,bD,h,h1]
 by_cases h2:aU t.text=[111,114]
 ·simp[TT,bD,h,h2]
 by_cases h3:aU t.text=[110,111,116]
 ·simp[TT,bD,h,h3]
 simp[TT,bD,h,h1,h2,h3]
theorem a4O(I:Heap):yT aK 125 [] I [] (fun e G H'=>(∃v,e= .returned v∧KI 9 G Cq.indexes v)∧H'=[]):=by
 refine yT.ob func125 ?_;intro w0 _;refine Cj.sr (aA yQ ?_);refine J.yV (aF rfl (AZ AP zL JG (aZ rfl (aZ rfl (aZ rfl (aZ rfl (aZ rfl (aZ rfl gZ)))))) ?_));intro O A;refine aA yQ ?_;refine J.ns (aY (gI A (fun _ _ h=>?_)));refine zN ?_;exact⟨⟨_,rfl,O,6,[],rfl,h⟩,rfl⟩
theorem a2I(I:Heap):yT aK 126 [] I [] (fun e G H'=>(∃v,e= .returned v∧KI 9 G cO v)∧H'=[]):=by
 refine yT.ob func126 ?_;intro w0 _;refine Cj.sr (aA yQ ?_);refine J.yV (aF rfl (AZ AP zL JG (aZ rfl (aZ rfl (aZ rfl (aZ rfl (aZ rfl (aZ rfl gZ)))))) ?_));intro O A;refine aA yQ ?_;refine J.ns (aY (gI A (fun _ _ h=>?_)));refine zN ?_;exact⟨⟨_,rfl,O,6,[],rfl,h⟩,rfl⟩
theorem b0U(I:Heap):yT aK 245 [] I [] (fun e G H'=>(∃v,e= .returned v∧KI 9 G opers v)∧H'=[]):=by
 refine yT.ob func245 ?_;intro w0 _;refine Cj.sr (aA yQ ?_);refine J.yV (aF rfl (AZ AP zL JG (aZ rfl (aZ rfl (aZ rfl gZ))) ?_));intro O A;refine aA yQ ?_;refine J.ns (aY (gI A (fun _ _ h=>?_)));refine zN ?_;exact⟨⟨_,rfl,O,3,[],rfl,h⟩,rfl⟩
theorem VG(s:List UInt8)(hs:s.length≤10000000000)(I:Heap)(h:Tabs I):Pure aK 244 [str s] I (str (SY s)):=by
 refine yT.ob func244 ?_;intro w0 _;refine Cj.sr (aA yQ ?_);refine J.yV (aA yP ?_);refine aF rfl (yU rfl rfl rfl rfl rfl (c7a s hs _ h) ?_);refine aA yQ ?_;refine J.ns (aY (zN ?_));exact rT
theorem XV(t:fM)(hx:t.text.length≤10000000000)(I:Heap)(ht:Tabs I):Pure aK 184 [a6M t] I (i64 (bD t:Nat)):=by
 refine fE ?_;refine yT.ob func184 ?_;intro w0 _;refine Cj.sr (aF rfl (BL ?_));intro _ _;refine aA yQ ?_;refine J.AO (aH (aA (qq2 (off':=0) EF ET) ?_));refine aA (yX KD (yR.at 0 rfl)) ?_;refine aA EY ?_;refine J.cd (fun O=>?_) (fun O=>?_)
 ·have a3:=bne_iff_ne.1 O;have hk:¬t.kind=3:=oM;have Z:bD t=0:=by unfold bD;rw[zG hk]
  refine Cj.sr (aA yQ ?_);refine J.ns (Cj.rs (bH ?_));refine zN ?_;rw[Z];exact rT
 have a3:=EC O;have hk:t.kind=3:=by have:=EC O;omega
 have a1:=a8w t hk;refine Cj.ks (aQ (dQ [0] [] 6 kR ?_));refine dK ⟨(bV 0 rfl bF),bG,(aW _)⟩ (fun a2=>?_);refine aB 1 rfl a2 (qq2 (off':=1) EF zL) ?_;refine aB 2 rfl a2 (yX BX (dZ 0 rfl)) ?_;refine zT 0 rfl (yS (H1:=[]) rfl rfl rfl rfl rfl (b0U _) ?_ (fun _ _ _ _ h=>by obtain⟨⟨_,h,_⟩,_⟩:=h;cases h) (fun _ _ h=>by obtain⟨⟨_,h,_⟩,_⟩:=h;cases h));intro _ _ _ A a5;have ht:=ht.mono A;obtain⟨⟨_,a6,a4⟩,rfl⟩:=a5;cases a6;refine⟨⟨(bU (aW _) A),(bV 0 rfl bF),bG⟩,?_⟩;refine zT 3 rfl (yU rfl rfl rfl rfl rfl (VG _ oM _ ht) ?_);refine⟨⟨(bU (aW _) A),(bV 0 rfl bF),bG⟩,?_⟩;refine zT 4 rfl (yU rfl rfl rfl rfl rfl (c3n opers _ _ dE _ a4) ?_);refine⟨⟨(bU (aW _) A),(bV 0 rfl bF),bG⟩,?_⟩;refine dV 11 rfl (show _=i64 (TT (aU t.text)) from(by rw[c3j,b3O])) ?_;refine dK ⟨(bV 0 rfl bF),bG,(bU (aW _) A)⟩ (fun a7=>?_);refine aB 5 rfl a7 yQ ?_;refine AL ?_;refine dU (aQ (Cj.sr (aA yP ?_)));refine aA BM ?_;refine J.cd (fun G=>?_) (fun G=>?_)
 ·have a0:=BH G;have Z:bD t=0:=a1.1 (BH G);refine Cj.sr (aA yQ ?_);refine J.ns (Cj.rs (bH ?_));refine zN ?_;rw[Z];exact rT
 have a0:=BN G;have h0:=BN G;have Z:=a1.2.1 oM;refine Cj.ks (Cj.sr (aA yP ?_));refine aA (yZ rfl rfl rfl (AA oM)) ?_;refine aA yQ ?_;refine J.ns (aY (bH ?_));refine zN ?_;rw[Z];exact rT
theorem a4U(t:fM)(hx:t.text.length≤10000000000)(I:Heap)(ht:Tabs I):Pure aK 243 [a6M t] I (.bool (eY t)):=by
 refine fE ?_;refine yT.ob func243 ?_;intro w0 _;refine Cj.sr (aF rfl (BL ?_));intro _ _;refine aA yQ ?_;refine J.nss (dQ [0] [] 16 kR ?_);refine dK ⟨(bV 0 rfl bF),bG,(aW _)⟩ (fun A=>?_);refine aB 0 rfl A (qq2 (off':=0) EF ET) ?_;refine aB 1 rfl A (yX KD (dZ 0 rfl)) ?_;refine aB 2 rfl A BO ?_;refine aB 3 rfl A yP ?_;refine JA.split 6 rfl (fun O=>?_) (fun O=>?_)
 ·have hk:t.kind=3:=by have:=CS O;omega
  refine CJ 4 3 6 false A (.inl (zD dB O)) ?_;refine CJ 5 3 6 false A (.inl (zD dB O)) ?_;refine CJ 6 3 6 false A (.inl (zD dB O)) ?_;refine aB 7 rfl A (DY O) ?_;refine aB 8 rfl A yP ?_;refine fC 10 8 11 true _ rfl A rfl rfl rfl (qq2 (off':=1) EF zL) ?_;refine fC 11 8 11 true _ rfl A rfl rfl rfl (yX BX (dZ 0 rfl)) ?_;refine eF 9 8 11 true _ kR rfl rfl rfl rfl rfl (yS (H1:=[]) rfl rfl rfl rfl rfl (a2I _) ?_ (fun _ _ _ _ h=>by obtain⟨⟨_,h,_⟩,_⟩:=h;cases h) (fun _ _ h=>by obtain⟨⟨_,h,_⟩,_⟩:=h;cases h));intro _ _ _ a0 a7;have ht:=ht.mono a0;obtain⟨⟨_,a8,a4⟩,rfl⟩:=a7;cases a8;refine⟨⟨(bU (aW _) a0),(bV 0 rfl bF),bG⟩,?_⟩;refine eF 12 8 11 true _ kR rfl rfl rfl rfl rfl (yU rfl rfl rfl rfl rfl (VG _ oM _ ht) ?_);refine⟨⟨(bU (aW _) a0),(bV 0 rfl bF),bG⟩,?_⟩;refine eF 13 8 11 true _ kR rfl rfl rfl rfl rfl (yU rfl rfl rfl rfl rfl (YH cO _ _ dE _ a4) ?_);refine⟨⟨(bU (aW _) a0),(bV 0 rfl bF),bG⟩,?_⟩;refine dV 16 rfl (show _= .bool (cO.contains (aU t.text)) from(by rw[(RH (l:=cO) dE t.text).1])) ?_;refine dK ⟨(bV 0 rfl bF),bG,(bU (aW _) a0)⟩ (fun a3=>?_);refine aB 14 rfl a3 JV ?_;refine aB 15 rfl a3 yQ ?_;refine AL ?_;refine dU (aY (bH ?_));refine zN ?_;refine⟨?_,rfl⟩
  simp_all[eY,nb1]
 have hk:¬t.kind=3:=by have:=CX O;omega
 refine fC 4 3 6 false _ rfl A rfl rfl O (qq2 (off':=0) EF ET) ?_;refine fC 5 3 6 false _ rfl A rfl rfl O (yX KD (dZ 0 rfl)) ?_;refine fC 6 3 6 false _ rfl A rfl rfl O BO ?_;refine aB 7 rfl A (DV O) ?_;refine aB 8 rfl A yP ?_;refine JA.split 11 rfl (fun G=>?_) (fun G=>?_)
 rotate_left
 ·refine CJ 9 8 11 true A (.inl (zD dB G)) ?_;refine CJ 10 8 11 true A (.inl (zD dB G)) ?_;refine CJ 11 8 11 true A (.inl (zD dB G)) ?_;refine CJ 12 8 11 true A (.inl (zD dB G)) ?_;refine CJ 13 8 11 true A (.inl (zD dB G)) ?_;refine aB 14 rfl A (DV G) ?_;refine aB 15 rfl A yQ ?_;refine AL ?_;refine dU (aY (bH ?_));refine zN ?_;refine⟨?_,rfl⟩
  simp_all[eY,nb1]
 refine fC 10 8 11 true _ rfl A rfl rfl G (qq2 (off':=1) EF zL) ?_;refine fC 11 8 11 true _ rfl A rfl rfl G (yX BX (dZ 0 rfl)) ?_;refine eF 9 8 11 true _ kR rfl rfl rfl rfl G (yS (H1:=[]) rfl rfl rfl rfl rfl (a2I _) ?_ (fun _ _ _ _ h=>by obtain⟨⟨_,h,_⟩,_⟩:=h;cases h) (fun _ _ h=>by obtain⟨⟨_,h,_⟩,_⟩:=h;cases h));intro _ _ _ Z a5;have ht:=ht.mono Z;obtain⟨⟨_,a6,a2⟩,rfl⟩:=a5;cases a6;refine⟨⟨(bU (aW _) Z),(bV 0 rfl bF),bG⟩,?_⟩;refine eF 12 8 11 true _ kR rfl rfl rfl rfl G (yU rfl rfl rfl rfl rfl (VG _ oM _ ht) ?_);refine⟨⟨(bU (aW _) Z),(bV 0 rfl bF),bG⟩,?_⟩;refine eF 13 8 11 true _ kR rfl rfl rfl rfl G (yU rfl rfl rfl rfl rfl (YH cO _ _ dE _ a2) ?_);refine⟨⟨(bU (aW _) Z),(bV 0 rfl bF),bG⟩,?_⟩;refine dV 16 rfl (show _= .bool (cO.contains (aU t.text)) from(by rw[(RH (l:=cO) dE t.text).1])) ?_;refine dK ⟨(bV 0 rfl bF),bG,(bU (aW _) Z)⟩ (fun a1=>?_);refine aB 14 rfl a1 (DY G) ?_;refine aB 15 rfl a1 yQ ?_;refine AL ?_;refine dU (aY (bH ?_));refine zN ?_;refine⟨?_,rfl⟩
 simp_all[eY,nb1]
end Go.Proofs.YtojdemmgkdokmaaGreatDoor
namespace Go.Proofs.YtojdemmgkdokmaaGreatDoor
open Go Go.Sx
theorem ub(c d:UInt8):((c.toNat:Int) == (d.toNat:Int))=(c == d):=by
 rw[eU,beq_iff_eq,beq_iff_eq];exact b7C c d
theorem b0x(c:UInt8):blanks.contains c=fZ c:=by
 have h1:=ub c 32;have h2:=ub c 9;have h3:=ub c 10;have h:=ub c 13;unfold fZ blanks;rw[show((c.toNat:Int) == 32)=(c == 32) from h1,show((c.toNat:Int) == 9)=(c == 9) from h2,show((c.toNat:Int) == 10)=(c == 10) from h3,show((c.toNat:Int) == 13)=(c == 13) from h];simp[iI,List.elem,Bool.or_assoc];cases c == 32<;>cases c == 9<;>cases c == 10<;>cases c == 13<;>rfl
theorem a4h(c:UInt8):breaks.contains c= !bJ c:=by
 have h:=b0x c;have h1:=ub c 40;have h2:=ub c 41;have h3:=ub c 34;have A:=ub c 61;have G:=ub c 60;have O:=ub c 62;unfold bJ breaks;rw[←h];simp only[bne];rw[show((c.toNat:Int) == 40)=(c == 40) from h1,show((c.toNat:Int) == 41)=(c == 41) from h2,show((c.toNat:Int) == 34)=(c == 34) from h3,show((c.toNat:Int) == 61)=(c == 61) from A,show((c.toNat:Int) == 60)=(c == 60) from G,show((c.toNat:Int) == 62)=(c == 62) from O];simp only[iI,List.elem,blanks];cases c == 32<;>cases c == 9<;>cases c == 10<;>cases c == 13<;>cases c == 40<;>cases c == 41<;>cases c == 34<;>cases c == 61<;>cases c == 60<;>cases c == 62<;>rfl
theorem a4c:∀l:List UInt8,(aP l breaks= -1∧l.takeWhile bJ=l)∨∃n:Nat,aP l breaks=n∧n<l.length∧l.takeWhile bJ=l.take n
 |[]=> .inl rT
 |c::l=>by
  rw[aP,a4h,List.takeWhile_cons];cases hp:bJ c with
  |false=>exact .inr ⟨0,rfl,sI,rfl⟩
  |true=>
   rcases a4c l with⟨h1,h2⟩|⟨n,h1,h2,h3⟩
   ·exact .inl ⟨by rw[h1];rfl,by simp[h2]⟩
   refine .inr ⟨n+1,?_,by simp;omega,by simp[h3]⟩;rw[h1];have:((n:Int) == -1)=false:=by rw[beq_eq_false_iff_ne];omega
   simp[this]
theorem c0L(s:List UInt8)(i:Nat)(G:i≤s.length):(i:Int)+(((s.drop i).length:Int)-((dM (s.drop i) blanks).length:Int))=(aS s i:Nat):=by
 have A:dM (s.drop i) blanks=(s.drop i).dropWhile fZ:=by
  unfold dM;congr 1;funext c;exact b0x c
 have h:=zD List.length (List.takeWhile_append_dropWhile (p:=fZ) (l:=s.drop i));rw[List.length_append]at h;rw[A];unfold aS;omega
theorem ZC{s:List UInt8}{i:Nat}{t:fM}{n:Nat}(h:aT (s.drop (aS s i)) (aS s i)=(t,n)):iJ s i=(t,aS s i+n):=by
 unfold iJ;rw[h]
theorem a5T(r:List UInt8)(j:Nat):((aV (34::r) 0).2=0→aT (34::r) j=(⟨4,[],j⟩,(34::r:List UInt8).length))∧((aV (34::r) 0).2≠0→aT (34::r) j=(⟨2,(aV (34::r) 0).1,j⟩,(aV (34::r) 0).2)):=by
 unfold aV aT;simp only[fK,iG,gU,if_true];cases Cq.quoted r with
 |none=>simp
 |some q=>simp;omega
theorem b4u(l:List UInt8):(aV l 0).2≤l.length:=by
 unfold aV;cases hq:Cq.quoted (l.drop (0+1))with
 |none=>simp
 |some q=>have:=Cq.YR _ _ q (fU _) hq;rw[eG]at this;simp;omega
theorem c0U{c:UInt8}{r:List UInt8}(j:Nat)(h:[61,61].isPrefixOf (c::r)=true):aT (c::r) j=(⟨1,(c::r).take 2,j⟩,2):=by
 cases r with
 |nil=>simp[bW]at h
 |cons d r=>
  simp[bW]at h;obtain⟨rfl,rfl⟩:=h;rfl
theorem c4V{c:UInt8}{r:List UInt8}(j:Nat)(h:[62,61].isPrefixOf (c::r)=true):aT (c::r) j=(⟨1,(c::r).take 2,j⟩,2):=by
 cases r with
 |nil=>simp[bW]at h
 |cons d r=>
  simp[bW]at h;obtain⟨rfl,rfl⟩:=h;rfl
theorem b4S{a b c:UInt8}{r:List UInt8}(h:[a,b].isPrefixOf (c::r)=true):2≤(c::r).length:=by
 cases r with
 |nil=>simp[bW]at h
 |cons d r=>simp
theorem a2K{a b c:UInt8}{r:List UInt8}(h:[a,b].isPrefixOf (c::r)=false):¬(c=a∧r.head?=some b):=by
 rintro⟨rfl,h2⟩;cases r with
 |nil=>simp at h2
 |cons d r=>simp at h2;subst h2;simp[bW]at h
theorem c3c{c:UInt8}{r:List UInt8}(j:Nat)(h:c=62)(h2:[62,61].isPrefixOf (c::r)=false):aT (c::r) j=(⟨4,[],j⟩,0):=by
 have:=a2K h2;subst h;unfold aT;simp at this;simp[this]
theorem c4A(r:List UInt8):aP (62::r) breaks=0:=by rw[aP];rfl
theorem c2X{c:UInt8}{r:List UInt8}(j:Nat)(A:c≠34)(h1:[61,61].isPrefixOf (c::r)=false)(h2:[62,61].isPrefixOf (c::r)=false)(G:c≠62)(h0:aP (c::r) breaks=0):aT (c::r) j=(⟨1,(c::r).take 1,j⟩,1):=by
 have h:bJ c=false:=by
  rw[aP,a4h]at h0;cases h:bJ c with
  |false=>rfl
  |true=>
   rw[h]at h0;have:=Lib.indexAny_ge breaks r;rw[Bool.not_true,zF sI]at h0
   by_cases h3:aP r breaks= -1
   ·rw[h3]at h0;cases h0
   rw[zF (by simpa using h3)]at h0;omega
 unfold aT;dsimp only;rw[zF A,zF (a2K h1),zF (a2K h2),zF G,h];rfl
theorem b0l{c:UInt8}{r:List UInt8}(j:Nat)(A:c≠34)(h1:[61,61].isPrefixOf (c::r)=false)(h2:[62,61].isPrefixOf (c::r)=false)(G:c≠62)(h0:aP (c::r) breaks≠0):aT (c::r) j=(⟨3,(c::r).takeWhile bJ,j⟩,((c::r).takeWhile bJ).length):=by
 have h:bJ c=true:=by
  cases h:bJ c with
  |true=>rfl
  |false=>exact absurd (by rw[aP,a4h,h];rfl) h0
 unfold aT;dsimp only;rw[zF A,zF (a2K h1),zF (a2K h2),zF G,h];rfl
open _root_.Go.Proofs.Tryz
theorem VN{α:Type}{x}{R G:List α}:((x::G)++R).Perm (x::(R++G)):=List.Perm.cons _ fD
theorem b2e{α:Type}{x:α}{R G:List α}:(x::(R++G)).Perm ((x::G)++R):=List.Perm.cons _ fD
theorem b7k x s tb kd tx pos (h0:0<s.length)(hs:s.length≤1000000000) I:yT aK 182 [x,str s,ptr tb 0] I [(tb,yY 208 [kd,tx,pos])]
 (fun e I' H'=>((aV s 0).2≠0∧e= .returned (i64 (aV s 0).2)∧H'=[(tb,yY 208 [kd,str (aV s 0).1,pos])])∨((aV s 0).2=0∧e= .returned (i64 s.length)∧H'=[(tb,yY 208 [i64 4,tx,pos])])):=by
 refine yT.ob func182 ?_;intro w0 _;refine Cj.sr (aA yQ ?_);refine J.yV (aF rfl (BP zeroValue271 ?_));intro b1 _;refine J.AO (aH (aA yQ ?_));refine J.ns (bY (gQ (ι:=Nat×List UInt8×Bool×Gs) (fun j=>Cq.SA s 0 j.1 j.2.1∧CU 0 1 j.2.1.length (EP j.2.1) j.2.2.2∧(j.2.1=[]→j.2.2.2=none)) (fun j=>s.length+1-j.1) (fun j=>[(1,str s),(2,ptr tb 0),(7,ptr b1 0),(8,i64 (j.1:Int))]) (fun j=>I) (fun j=>(b1,yY 271 [if j.2.2.1 then ptr b1 0 else .pointer none,gV j.2.1.length j.2.2.2])::(tb,yY 208 [kd,tx,pos])::gH 5 (EP j.2.1) j.2.2.2) (1,[],false,none) ⟨Cq.SA.start s 0 oM,⟨rfl,rfl⟩,fun _=>rfl⟩ rT rfl rfl ?_));rintro⟨k,out,p,g⟩ ⟨hq,hg,hn⟩;dsimp only at hq hg hn ⊢;have ai:=hq.lo;have ah:=hq.le;have aj:=hq.ol;refine aQ (Cj.sr (aA yP ?_));refine aA yP ?_;refine aA (GK BF) ?_;refine aA BM ?_;refine J.cd (fun a3=>?_) (fun a3=>?_)
 ·have a7:=BH a3;have a0:k<s.length:=oM;obtain⟨c,A⟩:∃c,s[k]?=some c:=⟨_,DX a0⟩;refine Cj.ks (aQ (bY (Cj.sr (aA yP ?_))));refine aA yP ?_;refine aA (DU rfl rfl rfl BF oM A) ?_;refine aA yQ ?_;refine J.AO (aH (aA yP ?_));refine aA BO ?_;refine J.cd (fun O=>?_) (fun O=>?_)
  ·have a8:=CS O;have a4:c=34:=QJ (d:=34) (CS O);refine Cj.sr (aA yP ?_);refine gJ (VN (R:=[_])) ?_;refine aF rfl (yS (H1:=MI _ _ _ _) rfl rfl rfl rfl rfl (iC (a4T _ out p g hg hn oM _)) ?_ (fun _ _ _ _ h=>by cases h.2.1) (fun _ _ h=>by cases h.2.1));intro _ _ _ _ ae;obtain⟨rfl,h,_,_,rfl⟩:=ae;cases h;refine aA zW ?_;refine aA (qq2 (off':=1) EF zL) ?_;refine aF rfl (zS 1 zL (aO (aC aJ)) (aX aI) ?_);refine J.yV (aA yP ?_);refine aA (yZ rfl rfl rfl (AA oM)) ?_;refine aA yQ ?_;refine J.ns (Cj.rs (dA (eP (gB (dA (eP (cZ (dG (dH dI)) ?_)))))));refine zN ?_;have he:=hq.quote c A a4;rw[he];exact .inl ⟨sI,rfl,rfl⟩
  have a8:=CX O;have a4:c≠34:=NG (d:=34) (CX O);refine Cj.ks (aQ (Cj.sr (aA yP ?_)));refine aA BO ?_;refine J.cd (fun G=>?_) (fun G=>?_)
  ·have a5:=CS G;have a1:c=92:=QJ (d:=92) (CS G);refine Cj.sr (aA yP ?_);refine aA (yZ rfl rfl rfl (AA oM)) ?_;refine aA yQ ?_;refine J.AO (aH (aA yP ?_));refine aA yP ?_;refine aA (GK BF) ?_;refine aA BO ?_;refine J.cd (fun Z=>?_) (fun Z=>?_)
   ·have a6:=CS Z;refine Cj.exit (gK (gK (Ej.b3j rfl ?_)));refine gK (Ej.JK (Ej.LC (dU (Cj.sr (aA yP ?_)))));refine aA zW ?_;refine aA (qq2 (off':=0) EF ET) ?_;refine aF rfl (zS 1 ET (aC aJ) (aX aI) ?_);refine J.yV (aA yP ?_);refine aA (GK BF) ?_;refine aA yQ ?_;refine J.ns (aY (cZ (b5h) ?_));refine zN ?_;have he:=(hq.fin a0 c A a1 oM).past oM;rw[he];exact .inr rT
   have a6:=CX Z;have a9:k+1<s.length:=oM;obtain⟨d,a2⟩:∃d,s[k+1]?=some d:=⟨_,DX a9⟩;refine Cj.ks (aH (aA yP ?_));refine aA yP ?_;refine aA (DU rfl rfl rfl BF oM a2) ?_;refine aA yQ ?_;refine J.GL (aA yP ?_);refine gJ (VN (R:=[_])) ?_;refine aF rfl (yS (H1:=MI _ _ _ _) rfl rfl rfl rfl rfl (iC (a5g _ out d p g hg oM _)) ?_ (fun _ _ _ _ h=>by cases h.2.1) (fun _ _ h=>by cases h.2.1));intro _ _ _ _ aa;obtain⟨rfl,h,af,ab,rfl⟩:=aa;cases h;refine gJ (b2e (R:=[_])) ?_;refine J.nb (aH (aA yP ?_));refine aA (yZ rfl rfl rfl (AA oM)) ?_;refine aA yQ ?_;refine dS (fF ((k+1+1),out++[d],true,af) ⟨hq.esc a0 c A a1 d a2,ab,fun h=>absurd h sI⟩ dO rT rfl rfl)
  have a5:=CX G;have a1:c≠92:=NG (d:=92) (CX G);refine Cj.ks (aH (aA yP ?_));refine gJ (VN (R:=[_])) ?_;refine aF rfl (yS (H1:=MI _ _ _ _) rfl rfl rfl rfl rfl (iC (a5g _ out c p g hg oM _)) ?_ (fun _ _ _ _ h=>by cases h.2.1) (fun _ _ h=>by cases h.2.1));intro _ _ _ _ ac;obtain⟨rfl,h,ag,ad,rfl⟩:=ac;cases h;refine gJ (b2e (R:=[_])) ?_;refine J.nb (aH (aA yP ?_));refine aA (yZ rfl rfl rfl (AA oM)) ?_;refine aA yQ ?_;refine dS (fF ((k+1),out++[c],true,ag) ⟨hq.byte a0 c A a4 a1,ad,fun h=>absurd h sI⟩ dO rT rfl rfl)
 have a7:=BN a3;refine Cj.xl (Cj.sr (aA yP ?_));refine aA zW ?_;refine aA (qq2 (off':=0) EF ET) ?_;refine aF rfl (zS 1 ET (aC aJ) (aX aI) ?_);refine J.yV (aA yP ?_);refine aA (GK BF) ?_;refine aA yQ ?_;refine J.ns (aY (cZ (b5h) ?_));refine zN ?_;have he:=hq.past oM;rw[he];exact .inr rT
def a0K (t:fM) (l:List Value):List Value:=i64 t.kind::str t.text::i64 t.pos::l
theorem scan_ok pb T (s:List UInt8)(i:Nat)(k0 x0 a0:Value)(rs:List Value)(hi:i≤s.length)(hs:s.length≤1000000000) I:yT aK 101 [ptr pb 0] I [(pb,yY T (str s::i64 i::k0::x0::a0::rs))]
 (fun e I' H'=>e= .returned (.tuple #[])∧H'=[(pb,yY T (str s::i64 (iJ s i).2::a0K (iJ s i).1 rs))]):=by
 obtain⟨_,_⟩:=Cq.a9f s i hi;obtain⟨rest,O⟩:∃rest,s.drop (aS s i)=rest:=⟨_,rfl⟩;have ap:aS s i+rest.length=s.length:=by rw[←O,eG];omega
 have aq:(dM (s.drop i) blanks).length≤(s.drop i).length:=(List.dropWhile_sublist _).length_le;have ar:(s.drop i).length≤s.length:=by rw[eG];omega
 refine yT.ob func101 ?_;intro w0 _;refine aQ (dQ [] [(pb,0,str s),(pb,1,i64 i)] 29 kR ?_);refine dK ⟨bF,(fO 0 rfl rfl (fO 0 rfl rfl bG)),(aW _)⟩ (fun BQ=>?_);refine aB 0 rfl BQ yP ?_;refine aB 1 rfl BQ zW ?_;refine aB 2 rfl BQ (qq2 (off':=1) EG AB) ?_;refine aB 3 rfl BQ (OD rfl rfl DT (fQ 1 rfl)) ?_;refine aB 4 rfl BQ yP ?_;refine aB 5 rfl BQ zW ?_;refine aB 6 rfl BQ (qq2 (off':=0) EG zL) ?_;refine aB 7 rfl BQ (OD rfl rfl BX (fQ 0 rfl)) ?_;refine aB 8 rfl BQ yP ?_;refine aB 9 rfl BQ zW ?_;refine aB 10 rfl BQ (qq2 (off':=1) EG AB) ?_;refine aB 11 rfl BQ (OD rfl rfl DT (fQ 1 rfl)) ?_;refine aB 12 rfl BQ (CY (p:=i) (q:=s.length) rfl rfl BF ⟨_,rfl⟩ rfl oM oM) ?_;refine dV 17 rfl (show _=str (s.drop i) from(by rw[eH])) ?_;refine aB 13 rfl BQ (GK BF) ?_;refine aB 14 rfl BQ yP ?_;refine aB 15 rfl BQ zW ?_;refine aB 16 rfl BQ (qq2 (off':=0) EG zL) ?_;refine aB 17 rfl BQ (OD rfl rfl BX (fQ 0 rfl)) ?_;refine aB 18 rfl BQ yP ?_;refine aB 19 rfl BQ zW ?_;refine aB 20 rfl BQ (qq2 (off':=1) EG AB) ?_;refine aB 21 rfl BQ (OD rfl rfl DT (fQ 1 rfl)) ?_;refine aB 22 rfl BQ (CY (p:=i) (q:=s.length) rfl rfl BF ⟨_,rfl⟩ rfl oM oM) ?_;refine dV 27 rfl (show _=str (s.drop i) from(by rw[eH])) ?_;refine zT 23 rfl (yU rfl rfl rfl rfl rfl (b3Y _ _) ?_);refine⟨⟨(aW _),bF,(fO 0 rfl rfl (fO 0 rfl rfl bG))⟩,?_⟩;refine dK ⟨bF,(fO 0 rfl rfl (fO 0 rfl rfl bG)),(aW _)⟩ (fun a8=>?_);refine aB 24 rfl a8 (GK BF) ?_;refine aB 25 rfl a8 (IC rfl rfl rfl (AA oM)) ?_;refine aB 26 rfl a8 (yZ rfl rfl rfl (AA oM)) ?_;refine dV 31 rfl (show _=i64 (aS s i:Nat) from(by rw[c0L s i hi])) ?_;refine aB 27 rfl a8 zW ?_;refine aB 28 rfl a8 (qq2 (off':=1) EG AB) ?_;refine JA.last 29 kR rfl rfl rfl (zS 0 AB (aO (aC aJ)) aI ?_);refine AL ?_;refine dU (aQ (dQ [0] [] 10 kR ?_));refine dK ⟨(bV 0 rfl bF),bG,(aW _)⟩ (fun fx3=>?_);refine aB 0 rfl fx3 yP ?_;refine aB 1 rfl fx3 zW ?_;refine aB 2 rfl fx3 (qq2 (off':=0) EG zL) ?_;refine aB 3 rfl fx3 (yX BX (dZ 0 rfl)) ?_;refine aB 4 rfl fx3 yP ?_;refine aB 5 rfl fx3 zW ?_;refine aB 6 rfl fx3 (qq2 (off':=1) EG AB) ?_;refine aB 7 rfl fx3 (yX DT (dZ 0 rfl)) ?_;refine aB 8 rfl fx3 (CY (p:=aS s i) (q:=s.length) rfl rfl BF ⟨_,rfl⟩ rfl oM oM) ?_;refine dV 42 rfl (show _=str rest from(by rw[eH,O])) ?_;refine aB 9 rfl fx3 yQ ?_;refine AL ?_;refine dU (Cj.sr (aA yP ?_));refine aA zW ?_;refine aA (qq2 (off':=1) EG AB) ?_;refine aA (yX DT (yR.at 0 rfl)) ?_;refine aA (zV (pl:= #[(0,1),(1,1),(2,1)]) rfl rfl zeroValue208 rfl EF (fun w=>by simp[ET,AB,zL]) (iD rfl rfl rfl (aO (aO (aC aJ))) GN.none)) ?_;refine aF rfl (BP zeroValue208 ?_);intro _ _;refine aF rfl (zS 0 DJ (aC (aC (aC aJ))) aI ?_);refine J.yV (aA yP ?_);refine aF rfl (yU rfl rfl rfl rfl rfl (b4g rest breaks oM dE dE dE _) ?_);refine aA yQ ?_;refine J.nss (bY (Cj.sr (aA yP ?_)));refine aA (ED rfl rfl rfl) ?_;refine aA yQ ?_;refine J.cd (fun a9=>?_) (fun a9=>?_)
 ·have aj:=CS a9;have he:rest=[]:=CS a9;subst he;refine aH (aA (qq2 (off':=0) EF ET) ?_);refine aF rfl (zS 0 ET (aC aJ) aI ?_);refine J.nb (aQ (Cj.sr (aA (qq2 (off':=0) EF ET) ?_)));refine aA (yX KD (yR.at 0 rfl)) ?_;refine aA BO ?_;refine aA yP ?_;refine CZ 3 85 false (zK (qq2 (off':=0) EF ET) ?_);refine CZ 3 85 false (zK (yX KD (yR.at 0 rfl)) ?_);refine CZ 3 85 false (zK BO ?_);refine aA IL ?_;refine J.c0 (fun _=>?_);refine Cj.ks (Cj.sr (aA yP ?_));refine aA zW ?_;refine aA (qq2 (off':=1) EG AB) ?_;refine aA (yX DT (yR.at 1 rfl)) ?_;refine aA yP ?_;refine aA (KG rfl rfl rfl) ?_;refine dR 99 rfl (show _=i64 (0:Nat) from rfl) ?_;refine aA (yZ rfl rfl rfl (AA oM)) ?_;refine aA zW ?_;refine aA (qq2 (off':=1) EG AB) ?_;refine aF rfl (zS 1 AB (aO (aC aJ)) (aX aI) ?_);refine J.GL (aA yP ?_);refine aA (zX JF DJ (yR.at 0 rfl)) ?_;refine aA zW ?_;refine aA (qq2 (off':=2) EG DJ) ?_;refine aF rfl (zS 1 DJ (aO (aO (aC (aC (aC aJ))))) (aX aI) ?_);refine dS (cZ (dG (dH dI)) ?_);refine dN rfl rfl ?_;have A:=(zD (fun l=>aT l (aS s i)) O).trans (show aT [] (aS s i)=(⟨0,[],aS s i⟩,0) from rfl);have G:=ZC A;rw[G];refine⟨rfl,?_⟩;simp[a0K,str]
 have aj:=CX a9;obtain⟨c,r,rfl⟩:∃c r,rest=c::r:=by
  cases rest with
  |nil=>cases a9
  |cons c r=>exact⟨c,r,rfl⟩
 have au:(c::r).length=r.length+1:=rfl;refine Cj.sr (aA yP ?_);refine aA (DU rfl rfl rfl BF oM rfl) ?_;refine aA BO ?_;refine aA yQ ?_;refine J.cd (fun aa=>?_) (fun aa=>?_)
 ·have ak:=CS aa;have ab:c=34:=QJ (d:=34) (CS aa);subst ab;refine Cj.sr (aA (qq2 (off':=0) EF ET) ?_);refine aF rfl (zS 0 ET (aC aJ) aI ?_);refine J.GL (aA yP ?_);refine aA yP ?_;refine J.pull Pull.z ?_;refine aF rfl (yS (H1:=[_]) rfl rfl rfl rfl rfl (b7k _ (34::r) _ _ _ _ sI oM _) ?_ (fun _ _ _ _ h=>by rcases h with h|h<;>cases h.2.1) (fun _ _ h=>by rcases h with h|h<;>cases h.2.1));intro _ _ _ _ al;rcases al with⟨hq,h1,h2⟩|⟨hq,h1,h2⟩
  ·subst h2;cases h1;have ad:=(a5T r (aS s i)).2 hq;have av:=b4u (34::r);refine aA yQ ?_;refine J.nb (aQ (Cj.sr (aA (qq2 (off':=0) EF ET) ?_)));refine aA (yX KD (yR.at 0 rfl)) ?_;refine aA BO ?_;refine aA yP ?_;refine CZ 3 85 false (zK (qq2 (off':=0) EF ET) ?_);refine CZ 3 85 false (zK (yX KD (yR.at 0 rfl)) ?_);refine CZ 3 85 false (zK BO ?_);refine aA IL ?_;refine J.c0 (fun _=>?_);refine Cj.ks (Cj.sr (aA yP ?_));refine aA zW ?_;refine aA (qq2 (off':=1) EG AB) ?_;refine aA (yX DT (yR.at 1 rfl)) ?_;refine aA yP ?_;refine aA (KG rfl rfl rfl) ?_;refine dR 99 rfl (show _=i64 ((aV (34::r) 0).2:Nat) from(by first|(congr 1;done)|(congr 1;rw[zF oM]))) ?_;refine aA (yZ rfl rfl rfl (AA oM)) ?_;refine aA zW ?_;refine aA (qq2 (off':=1) EG AB) ?_;refine aF rfl (zS 1 AB (aO (aC aJ)) (aX aI) ?_);refine J.GL (aA yP ?_);refine aA (zX JF DJ (yR.at 0 rfl)) ?_;refine aA zW ?_;refine aA (qq2 (off':=2) EG DJ) ?_;refine aF rfl (zS 1 DJ (aO (aO (aC (aC (aC aJ))))) (aX aI) ?_);refine dS (cZ (dG (dH dI)) ?_);refine dN rfl rfl ?_;have A:=(zD (fun l=>aT l (aS s i)) O).trans ad;have G:=ZC A;rw[G];refine⟨rfl,?_⟩;simp[a0K,str]
  subst h2;cases h1;have ad:=(a5T r (aS s i)).1 hq;refine aA yQ ?_;refine J.nb (aQ (Cj.sr (aA (qq2 (off':=0) EF ET) ?_)));refine aA (yX KD (yR.at 0 rfl)) ?_;refine aA BO ?_;refine aA yP ?_;refine CZ 3 85 false (zK (qq2 (off':=0) EF ET) ?_);refine CZ 3 85 false (zK (yX KD (yR.at 0 rfl)) ?_);refine CZ 3 85 false (zK BO ?_);refine aA IL ?_;refine J.c0 (fun _=>?_);refine Cj.ks (Cj.sr (aA yP ?_));refine aA zW ?_;refine aA (qq2 (off':=1) EG AB) ?_;refine aA (yX DT (yR.at 1 rfl)) ?_;refine aA yP ?_;refine aA (KG rfl rfl rfl) ?_;refine dR 99 rfl (show _=i64 ((34::r:List UInt8).length:Nat) from(by first|(congr 1;done)|(congr 1;rw[zF oM]))) ?_;refine aA (yZ rfl rfl rfl (AA oM)) ?_;refine aA zW ?_;refine aA (qq2 (off':=1) EG AB) ?_;refine aF rfl (zS 1 AB (aO (aC aJ)) (aX aI) ?_);refine J.GL (aA yP ?_);refine aA (zX JF DJ (yR.at 0 rfl)) ?_;refine aA zW ?_;refine aA (qq2 (off':=2) EG DJ) ?_;refine aF rfl (zS 1 DJ (aO (aO (aC (aC (aC aJ))))) (aX aI) ?_);refine dS (cZ (dG (dH dI)) ?_);refine dN rfl rfl ?_;have A:=(zD (fun l=>aT l (aS s i)) O).trans ad;have G:=ZC A;rw[G];refine⟨rfl,?_⟩;simp[a0K,str]
 have ak:=CX aa;have ab:c≠34:=NG (d:=34) (CX aa);refine aQ (Cj.sr (aA yP ?_));refine aF rfl (yU rfl rfl rfl rfl rfl (a3W _ _ _) ?_);refine aA yQ ?_;refine J.cd (fun a6=>?_) (fun a6=>?_)
 ·have a1:[61,61].isPrefixOf (c::r)=true:=a6;have af:=b4S a1;refine Cj.ks (bQ rfl (fun ae=>?_) (fun ae=>aN (bC (bT a6) ae)));refine aH (aA (qq2 (off':=0) EF ET) ?_);refine aF rfl (zS 0 ET (aC aJ) aI ?_);refine aA yQ ?_;refine J.nb (aQ (Cj.sr (aA (qq2 (off':=0) EF ET) ?_)));refine aA (yX KD (yR.at 0 rfl)) ?_;refine aA BO ?_;refine aA yP ?_;refine CQ 3 85 86 false ?_;refine CQ 3 85 87 false ?_;refine CQ 3 85 88 false ?_;refine aA JV ?_;refine J.c1 (fun _=>?_);refine aH (aA yP ?_);refine aA yP ?_;refine aA (CY (p:=0) (q:=2) rfl rfl BF rfl ⟨_,rfl⟩ oM (by first|omega|(simp only[dD];omega))) ?_;refine aA (qq2 (off':=1) EF zL) ?_;refine aF rfl (zS 0 zL (aO (aC aJ)) aI ?_);refine J.yV (aA yP ?_);refine aA zW ?_;refine aA (qq2 (off':=1) EG AB) ?_;refine aA (yX DT (yR.at 1 rfl)) ?_;refine aA yP ?_;refine aA (KG rfl rfl rfl) ?_;refine dR 99 rfl (show _=i64 (2:Nat) from rfl) ?_;refine aA (yZ rfl rfl rfl (AA oM)) ?_;refine aA zW ?_;refine aA (qq2 (off':=1) EG AB) ?_;refine aF rfl (zS 1 AB (aO (aC aJ)) (aX aI) ?_);refine J.GL (aA yP ?_);refine aA (zX JF DJ (yR.at 0 rfl)) ?_;refine aA zW ?_;refine aA (qq2 (off':=2) EG DJ) ?_;refine aF rfl (zS 1 DJ (aO (aO (aC (aC (aC aJ))))) (aX aI) ?_);refine dS (cZ (dG (dH dI)) ?_);refine dN rfl rfl ?_;have A:=(zD (fun l=>aT l (aS s i)) O).trans (c0U _ a1);have G:=ZC A;rw[G];refine⟨rfl,?_⟩;simp[a0K,str]
 have a1:[61,61].isPrefixOf (c::r)=false:=a6;refine aH (aA yP ?_);refine aF rfl (yU rfl rfl rfl rfl rfl (a3W _ _ _) ?_);refine aA yQ ?_;refine J.cd (fun ac=>?_) (fun ac=>?_)
 ·have Z:[62,61].isPrefixOf (c::r)=true:=ac;have af:=b4S Z;refine aH (aA (qq2 (off':=0) EF ET) ?_);refine aF rfl (zS 0 ET (aC aJ) aI ?_);refine aA yQ ?_;refine J.nb (aQ (Cj.sr (aA (qq2 (off':=0) EF ET) ?_)));refine aA (yX KD (yR.at 0 rfl)) ?_;refine aA BO ?_;refine aA yP ?_;refine CQ 3 85 86 false ?_;refine CQ 3 85 87 false ?_;refine CQ 3 85 88 false ?_;refine aA JV ?_;refine J.c1 (fun _=>?_);refine aH (aA yP ?_);refine aA yP ?_;refine aA (CY (p:=0) (q:=2) rfl rfl BF rfl ⟨_,rfl⟩ oM (by first|omega|(simp only[dD];omega))) ?_;refine aA (qq2 (off':=1) EF zL) ?_;refine aF rfl (zS 0 zL (aO (aC aJ)) aI ?_);refine J.yV (aA yP ?_);refine aA zW ?_;refine aA (qq2 (off':=1) EG AB) ?_;refine aA (yX DT (yR.at 1 rfl)) ?_;refine aA yP ?_;refine aA (KG rfl rfl rfl) ?_;refine dR 99 rfl (show _=i64 (2:Nat) from rfl) ?_;refine aA (yZ rfl rfl rfl (AA oM)) ?_;refine aA zW ?_;refine aA (qq2 (off':=1) EG AB) ?_;refine aF rfl (zS 1 AB (aO (aC aJ)) (aX aI) ?_);refine J.GL (aA yP ?_);refine aA (zX JF DJ (yR.at 0 rfl)) ?_;refine aA zW ?_;refine aA (qq2 (off':=2) EG DJ) ?_;refine aF rfl (zS 1 DJ (aO (aO (aC (aC (aC aJ))))) (aX aI) ?_);refine dS (cZ (dG (dH dI)) ?_);refine dN rfl rfl ?_;have A:=(zD (fun l=>aT l (aS s i)) O).trans (c4V _ Z);have G:=ZC A;rw[G];refine⟨rfl,?_⟩;simp[a0K,str]
 have Z:[62,61].isPrefixOf (c::r)=false:=ac;refine Cj.sr (aA yP ?_);refine aA (DU rfl rfl rfl BF oM rfl) ?_;refine aA BO ?_;refine aA yQ ?_;refine J.cd (fun a2=>?_) (fun a2=>?_)
 ·have ag:=CS a2;have a3:c=62:=QJ (d:=62) (CS a2);subst a3;have a3:(62:UInt8)=62:=rfl;refine aH (aA (qq2 (off':=0) EF ET) ?_);refine aF rfl (zS 0 ET (aC aJ) aI ?_);refine J.nb (aQ (Cj.sr (aA (qq2 (off':=0) EF ET) ?_)));refine aA (yX KD (yR.at 0 rfl)) ?_;refine aA BO ?_;refine aA yP ?_;refine CZ 3 85 false (zK (qq2 (off':=0) EF ET) ?_);refine CZ 3 85 false (zK (yX KD (yR.at 0 rfl)) ?_);refine CZ 3 85 false (zK BO ?_);refine aA IL ?_;refine J.c0 (fun _=>?_);refine Cj.ks (Cj.sr (aA yP ?_));refine aA zW ?_;refine aA (qq2 (off':=1) EG AB) ?_;refine aA (yX DT (yR.at 1 rfl)) ?_;refine aA yP ?_;refine aA (KG rfl rfl rfl) ?_;refine dR 99 rfl (show _=i64 (0:Nat) from(by rw[c4A];rfl)) ?_;refine aA (yZ rfl rfl rfl (AA oM)) ?_;refine aA zW ?_;refine aA (qq2 (off':=1) EG AB) ?_;refine aF rfl (zS 1 AB (aO (aC aJ)) (aX aI) ?_);refine J.GL (aA yP ?_);refine aA (zX JF DJ (yR.at 0 rfl)) ?_;refine aA zW ?_;refine aA (qq2 (off':=2) EG DJ) ?_;refine aF rfl (zS 1 DJ (aO (aO (aC (aC (aC aJ))))) (aX aI) ?_);refine dS (cZ (dG (dH dI)) ?_);refine dN rfl rfl ?_;have A:=(zD (fun l=>aT l (aS s i)) O).trans (c3c _ a3 Z);have G:=ZC A;rw[G];refine⟨rfl,?_⟩;simp[a0K,str]
 have ag:=CX a2;have a3:c≠62:=NG (d:=62) (CX a2);refine Cj.sr (aA yP ?_);refine aA BO ?_;refine aA yQ ?_;refine J.cd (fun a4=>?_) (fun a4=>?_)
 ·have ah:=CS a4;have a7:aP (c::r) breaks=0:=CS a4;refine aH (aA (qq2 (off':=0) EF ET) ?_);refine aF rfl (zS 0 ET (aC aJ) aI ?_);refine aA yQ ?_;refine J.nb (aQ (Cj.sr (aA (qq2 (off':=0) EF ET) ?_)));refine aA (yX KD (yR.at 0 rfl)) ?_;refine aA BO ?_;refine aA yP ?_;refine CQ 3 85 86 false ?_;refine CQ 3 85 87 false ?_;refine CQ 3 85 88 false ?_;refine aA JV ?_;refine J.c1 (fun _=>?_);refine aH (aA yP ?_);refine aA yP ?_;refine aA (CY (p:=0) (q:=1) rfl rfl BF rfl ⟨_,rfl⟩ oM (by first|omega|(simp only[dD];omega))) ?_;refine aA (qq2 (off':=1) EF zL) ?_;refine aF rfl (zS 0 zL (aO (aC aJ)) aI ?_);refine J.yV (aA yP ?_);refine aA zW ?_;refine aA (qq2 (off':=1) EG AB) ?_;refine aA (yX DT (yR.at 1 rfl)) ?_;refine aA yP ?_;refine aA (KG rfl rfl rfl) ?_;refine dR 99 rfl (show _=i64 (1:Nat) from rfl) ?_;refine aA (yZ rfl rfl rfl (AA oM)) ?_;refine aA zW ?_;refine aA (qq2 (off':=1) EG AB) ?_;refine aF rfl (zS 1 AB (aO (aC aJ)) (aX aI) ?_);refine J.GL (aA yP ?_);refine aA (zX JF DJ (yR.at 0 rfl)) ?_;refine aA zW ?_;refine aA (qq2 (off':=2) EG DJ) ?_;refine aF rfl (zS 1 DJ (aO (aO (aC (aC (aC aJ))))) (aX aI) ?_);refine dS (cZ (dG (dH dI)) ?_);refine dN rfl rfl ?_;have A:=(zD (fun l=>aT l (aS s i)) O).trans (c2X _ ab a1 Z a3 a7);have G:=ZC A;rw[G];refine⟨rfl,?_⟩;simp[a0K,str]
 have ah:=CX a4;have a7:aP (c::r) breaks≠0:=CX a4;refine Cj.sr (aA (qq2 (off':=0) EF ET) ?_);refine aF rfl (zS 0 ET (aC aJ) aI ?_);refine J.yV (aA yP ?_);refine aA BM ?_;refine J.cd (fun a5=>?_) (fun a5=>?_)
 ·have ai:=BH a5;have am:=BH a5;have hw:(c::r).takeWhile bJ=c::r:=by rcases a4c (c::r)with h|⟨n,h,_⟩;exact h.2;omega
  refine aH (aA yP ?_);refine aA (GK BF) ?_;refine aA yQ ?_;refine J.nb (aQ (Cj.sr (aA (qq2 (off':=0) EF ET) ?_)));refine aA (yX KD (yR.at 0 rfl)) ?_;refine aA BO ?_;refine aA yP ?_;refine CZ 3 85 false (zK (qq2 (off':=0) EF ET) ?_);refine CZ 3 85 false (zK (yX KD (yR.at 0 rfl)) ?_);refine CZ 3 85 false (zK BO ?_);refine aA IL ?_;refine J.c1 (fun _=>?_);refine aH (aA yP ?_);refine aA yP ?_;refine aA (CY (p:=0) (q:=(c::r).length) rfl rfl BF rfl ⟨_,rfl⟩ oM (by first|omega|(simp only[dD];omega))) ?_;refine aA (qq2 (off':=1) EF zL) ?_;refine aF rfl (zS 0 zL (aO (aC aJ)) aI ?_);refine J.yV (aA yP ?_);refine aA zW ?_;refine aA (qq2 (off':=1) EG AB) ?_;refine aA (yX DT (yR.at 1 rfl)) ?_;refine aA yP ?_;refine aA (KG rfl rfl rfl) ?_;refine dR 99 rfl (show _=i64 ((c::r).length:Nat) from(by first|(congr 1;done)|(congr 1;rw[zF oM]))) ?_;refine aA (yZ rfl rfl rfl (AA oM)) ?_;refine aA zW ?_;refine aA (qq2 (off':=1) EG AB) ?_;refine aF rfl (zS 1 AB (aO (aC aJ)) (aX aI) ?_);refine J.GL (aA yP ?_);refine aA (zX JF DJ (yR.at 0 rfl)) ?_;refine aA zW ?_;refine aA (qq2 (off':=2) EG DJ) ?_;refine aF rfl (zS 1 DJ (aO (aO (aC (aC (aC aJ))))) (aX aI) ?_);refine dS (cZ (dG (dH dI)) ?_);refine dN rfl rfl ?_;have A:=(zD (fun l=>aT l (aS s i)) O).trans (b0l _ ab a1 Z a3 a7);have G:=ZC A;rw[G];rw[hw];refine⟨rfl,?_⟩;simp[a0K,str]
 have ai:=BN a5;have am:=BN a5;obtain⟨n,hn,an,hw⟩:∃n:Nat,aP (c::r) breaks=n∧n<(c::r).length∧(c::r).takeWhile bJ=(c::r).take n:=by rcases a4c (c::r)with h|h;omega;exact h
 have ao:=an;refine Cj.kb (aQ (Cj.sr (aA (qq2 (off':=0) EF ET) ?_)));refine aA (yX KD (yR.at 0 rfl)) ?_;refine aA BO ?_;refine aA yP ?_;refine CZ 3 85 false (zK (qq2 (off':=0) EF ET) ?_);refine CZ 3 85 false (zK (yX KD (yR.at 0 rfl)) ?_);refine CZ 3 85 false (zK BO ?_);refine aA IL ?_;refine J.c1 (fun _=>?_);refine aH (aA yP ?_);refine aA yP ?_;refine dR 91 rfl (show _=i64 (n:Nat) from(by rw[hn])) ?_;refine aA (CY (p:=0) (q:=n) rfl rfl BF rfl ⟨_,rfl⟩ oM (by first|omega|(simp only[dD];omega))) ?_;refine aA (qq2 (off':=1) EF zL) ?_;refine aF rfl (zS 0 zL (aO (aC aJ)) aI ?_);refine J.yV (aA yP ?_);refine aA zW ?_;refine aA (qq2 (off':=1) EG AB) ?_;refine aA (yX DT (yR.at 1 rfl)) ?_;refine aA yP ?_;refine dR 98 rfl (show _=i64 (n:Nat) from(by rw[hn])) ?_;refine aA (KG rfl rfl rfl) ?_;refine dR 99 rfl (show _=i64 (n:Nat) from(by first|(congr 1;done)|(congr 1;rw[zF oM]))) ?_;refine aA (yZ rfl rfl rfl (AA oM)) ?_;refine aA zW ?_;refine aA (qq2 (off':=1) EG AB) ?_;refine aF rfl (zS 1 AB (aO (aC aJ)) (aX aI) ?_);refine J.GL (aA yP ?_);refine aA (zX JF DJ (yR.at 0 rfl)) ?_;refine aA zW ?_;refine aA (qq2 (off':=2) EG DJ) ?_;refine aF rfl (zS 1 DJ (aO (aO (aC (aC (aC aJ))))) (aX aI) ?_);refine dS (cZ (dG (dH dI)) ?_);refine dN rfl rfl ?_;have A:=(zD (fun l=>aT l (aS s i)) O).trans (b0l _ ab a1 Z a3 a7);have G:=ZC A;rw[G];rw[hw];refine⟨rfl,?_⟩;simp[a0K,str,show min n (r.length+1)=n from Nat.min_eq_left oM]
def a5f (p e:Nat):List PanicEntry:=[{ v:= .iface 203 (.agg #[i64 p,i64 e]),recovered:=false }]
def PH (pb:Nat) (s:List UInt8) (i:Nat) (t:fM) (deep:Nat):HL:=[(pb,yY 212 (str s::i64 i::a0K t [i64 deep]))]
theorem UR x t (h:Nat) I:yT aK 103 [x,a6M t,i64 h] I [] (fun e A H'=>e= .panicked (a5f t.pos h)∧H'=[]):=by
 refine yT.ob func103 ?_;intro w0 _;refine Cj.sr (aF rfl (BL ?_));intro _ _;refine J.GL (aA (qq2 (off':=2) EF AB) ?_);refine aA (yX DT (yR.at 0 rfl)) ?_;refine aA yP ?_;refine aA (zV (pl:= #[(0,1),(1,1)]) rfl rfl zeroValue203 rfl a8o (fun w=>by simp[AB,JJ]) (iD rfl rfl rfl (aC aJ) (iD rfl rfl rfl (aO (aC aJ)) GN.none))) ?_;refine aA (a4B rfl rfl a8o rfl) ?_;refine aF rfl (c2K rfl rfl ?_)
 skip
 refine bH ?_;refine iK rfl ?_;exact rT
theorem c6X A s i t deep y I:yT aK 296 [ptr A 0,str y] I (PH A s i t deep) (fun e G H'=>e= .returned (.bool (t.kind == 1 && t.text == y))∧H'=PH A s i t deep):=by
 refine yT.ob func296 ?_;intro w0 _;refine Cj.sr (aA yQ ?_);refine J.yV (aA yP ?_);refine aA zW ?_;refine aA (qq2 (off':=2) EG DJ) ?_;refine aA (qq2 (off':=2) EF ET) ?_;refine aA (yX KD (yR.at 0 rfl)) ?_;refine aA BO ?_;refine aA yP ?_;refine gW 11 rfl (fun h=>?_) (fun h=>?_)
 ·refine zU 6 11 true h (zK yP ?_);refine zU 6 11 true h (zK zW ?_);refine zU 6 11 true h (zK (qq2 (off':=2) EG DJ) ?_);refine zU 6 11 true h (zK (qq2 (off':=3) EF zL) ?_);refine zU 6 11 true h (zK (yX BX (yR.at 0 rfl)) ?_);refine zU 6 11 true h (zK yP ?_);refine zU 6 11 true h (zK (ED rfl rfl rfl) ?_);refine aA (DY h) ?_;refine aA yQ ?_;refine J.ns (aY (zN ?_));refine⟨?_,rfl⟩
  simp_all[nb1]
 refine zO 6 11 12 true h ?_;refine zO 6 11 13 true h ?_;refine zO 6 11 14 true h ?_;refine zO 6 11 15 true h ?_;refine zO 6 11 16 true h ?_;refine zO 6 11 17 true h ?_;refine zO 6 11 18 true h ?_;refine aA (DV h) ?_;refine aA yQ ?_;refine J.ns (aY (zN ?_));refine⟨?_,rfl⟩
 simp_all[nb1]
theorem UZ x t (hx:t.text.length≤1000000000) I (ht:Tabs I):yT aK 242 [x,a6M t] I [] (fun e I' H'=>if bP t then e= .returned (str t.text)∧H'=[]else e= .panicked (a5f t.pos 40)∧H'=[]):=by
 refine yT.ob func242 ?_;intro w0 _;refine Cj.sr (aF rfl (BL ?_));intro _ _;refine aA yQ ?_;refine J.AO (aH (aA (qq2 (off':=0) EF ET) ?_));refine aA (yX KD (yR.at 0 rfl)) ?_;refine aA EY ?_;refine aA yP ?_;refine gW 8 rfl (fun A=>?_) (fun A=>?_)
 rotate_left
 ·have a4:t.kind=3:=by have:=EC A;omega
  refine zO 3 8 9 true A ?_;refine zO 3 8 10 true A ?_;refine zO 3 8 11 true A ?_;refine aA (DV A) ?_;refine aA yP ?_;refine CZ 8 13 false (zK (zX JF DJ (yR.at 0 rfl)) ?_);refine J.QD 8 13 false _ rfl rfl rfl rfl (yU rfl rfl rfl rfl rfl (XV _ oM _ ht) ?_);refine CZ 8 13 false (zK (KO rfl rfl rfl) ?_);refine aA IL ?_;refine J.cd (fun O=>?_) (fun O=>?_)
  ·have a0:=BH O;have hT:bP t=false:=by have:=BH O;simp[bP];omega
   refine aH (aA yP ?_);refine aA (zX JF DJ (yR.at 0 rfl)) ?_;refine aF rfl (yS (H1:=[]) rfl rfl rfl rfl rfl (UR _ _ _ _) (fun _ _ _ _ h=>by cases h.1) ?_ (fun _ _ h=>by cases h.1));intro _ _ _ a1 a6;have ht:=ht.mono a1;obtain⟨h,rfl⟩:=a6;cases h;refine fV ?_;refine bH ?_;refine iK rfl ?_;exact(zF (by rw[hT];decide)).mpr rT
  have a0:=BN O;have hT:bP t=true:=by have:=BN O;simp[bP];omega
  refine Cj.ks (Cj.sr (aA (qq2 (off':=1) EF zL) ?_));refine aA (yX BX (yR.at 0 rfl)) ?_;refine aA yQ ?_;refine J.ns (aY (bH ?_));refine zN ?_;exact(zG hT).mpr rT
 have a4:t.kind≠3:=by have:=bne_iff_ne.1 A;omega
 refine zU 3 8 true A (zK (qq2 (off':=0) EF ET) ?_);refine zU 3 8 true A (zK (yX KD (yR.at 0 rfl)) ?_);refine zU 3 8 true A (zK EY ?_);refine aA (DY A) ?_;refine aA yP ?_;refine gW 13 rfl (fun G=>?_) (fun G=>?_)
 ·have a5:t.kind≠2:=by have:=bne_iff_ne.1 G;omega
  have hT:bP t=false:=by simp[bP,a5,a4]
  refine zO 8 13 14 false G ?_;refine zO 8 13 15 false G ?_;refine zO 8 13 16 false G ?_;refine aA (DY G) ?_;refine J.c1 (fun _=>?_);refine aH (aA yP ?_);refine aA (zX JF DJ (yR.at 0 rfl)) ?_;refine aF rfl (yS (H1:=[]) rfl rfl rfl rfl rfl (UR _ _ _ _) (fun _ _ _ _ h=>by cases h.1) ?_ (fun _ _ h=>by cases h.1));intro _ _ _ a7 a9;have ht:=ht.mono a7;obtain⟨h,rfl⟩:=a9;cases h;refine fV ?_;refine bH ?_;refine iK rfl ?_;exact(zF (by rw[hT];decide)).mpr rT
 have a5:t.kind=2:=by have:=EC G;omega
 refine zU 8 13 false G (zK (zX JF DJ (yR.at 0 rfl)) ?_);refine J.QD 8 13 false _ rfl rfl rfl G (yU rfl rfl rfl rfl rfl (XV _ oM _ ht) ?_);refine zU 8 13 false G (zK (KO rfl rfl rfl) ?_);refine aA (DV G) ?_;refine J.cd (fun Z=>?_) (fun Z=>?_)
 ·have a2:=BH Z;have hT:bP t=false:=by have:=BH Z;simp[bP];omega
  refine aH (aA yP ?_);refine aA (zX JF DJ (yR.at 0 rfl)) ?_;refine aF rfl (yS (H1:=[]) rfl rfl rfl rfl rfl (UR _ _ _ _) (fun _ _ _ _ h=>by cases h.1) ?_ (fun _ _ h=>by cases h.1));intro _ _ _ a3 a8;have ht:=ht.mono a3;obtain⟨h,rfl⟩:=a8;cases h;refine fV ?_;refine bH ?_;refine iK rfl ?_;exact(zF (by rw[hT];decide)).mpr rT
 have a2:=BN Z;have hT:bP t=true:=by have:=BN Z;simp[bP];omega
 refine Cj.ks (Cj.sr (aA (qq2 (off':=1) EF zL) ?_));refine aA (yX BX (yR.at 0 rfl)) ?_;refine aA yQ ?_;refine J.ns (aY (bH ?_));refine zN ?_;exact(zG hT).mpr rT
end Go.Proofs.YtojdemmgkdokmaaGreatDoor
namespace Cq
theorem b9N rest j:(head rest j).1.text.length≤rest.length:=by
 cases rest with
 |nil=>simp[head]
 |cons c r=>
  unfold head
  by_cases h34:c=34
  ·simp only[h34,if_true];cases hq:quoted r with
   |none=>simp
   |some q=>have:=YR _ r q (fU _) hq;simp;omega
  simp only[h34,if_false]
  split
  ·rename_i h1
   have:r≠[]:=fun h=>by simp[h]at h1
   have:=fH.2 this;simp;omega
  split
  ·rename_i h1
   have:r≠[]:=fun h=>by simp[h]at h1
   have:=fH.2 this;simp;omega
  split
  ·simp
  split
  ·exact(List.takeWhile_sublist _).length_le
  simp
theorem UH s:∀f i,i≤s.length→s.length-i<f→YK (toks s f i)∧(toks s f i).length≤s.length+1-i∧∀t∈toks s f i,t.text.length≤s.length
 |0,i,_,h=>oM
 |f+1,i,hi,hf=>by
  have A:(lex s i).1.text.length≤s.length:=by
   have:=b9N (s.drop (skip s i)) (skip s i);simp only[lex];simp at this;omega
  simp only[toks];cases ho:over (lex s i).1 with
  |true=>exact⟨⟨[],_,rfl,ho⟩,by simp;omega,by simpa using A⟩
  |false=>
   have G:=ZY s i hi ho;obtain⟨⟨l,x,h1,h2⟩,h3,O⟩:=UH s f _ G.2 oM;simp only[fP,if_false];exact⟨⟨_::l,x,by rw[h1];rfl,h2⟩,by simp;omega,fun t h=>(iH.1 h).elim (fun h=>h▸A) (O t)⟩
end Cq
namespace Cq
def Cur (s:List UInt8) (i:Nat) (t:Tok) (ts:List Tok):Prop:=∃j,j≤s.length∧lex s j=(t,i)∧a3g s j=ts
theorem Cur.start s:Cur s (lex s 0).2 (lex s 0).1 (tokens s):=⟨0,Nat.zero_le _,rfl,rfl⟩
section
variable {s:List UInt8} {i:Nat} {t:Tok} {ts:List Tok}
theorem Cur.good(h:Cur s i t ts):YK ts:=by
 obtain⟨j,A,_,rfl⟩:=h;exact(UH s _ j A oM).1
theorem Cur.txt(h:Cur s i t ts):t.text.length≤s.length:=by
 obtain⟨j,A,h1,rfl⟩:=h;refine(UH s (s.length+1-j) j A oM).2.2 t ?_;show t∈a3g s j;rw[XF s j A,h1]
 split<;>simp
theorem Cur.cons(h:Cur s i t ts):∃r,ts=t::r:=by
 obtain⟨j,A,h1,rfl⟩:=h;rw[XF s j A,h1]
 split
 ·exact⟨_,rfl⟩
 exact⟨_,rfl⟩
theorem Cur.next{r}(h:Cur s i t (t::r))(G:over t=false):i≤s.length∧Cur s (lex s i).2 (lex s i).1 r:=by
 obtain⟨j,O,h1,h2⟩:=h;have A:=ZY s j O (by rw[h1];exact G);rw[h1]at A;rw[XF s j O,h1]at h2;simp only[G,fP,if_false,List.cons.injEq,true_and]at h2;exact⟨A.2,i,A.2,rfl,h2⟩
theorem Cur.len(h:Cur s i t ts):ts.length≤s.length+1:=by
 obtain⟨j,A,_,rfl⟩:=h;have:=(UH s (s.length+1-j) j A oM).2.1;show(toks s (s.length+1-j) j).length≤_;omega
