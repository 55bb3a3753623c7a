/-
  Own texts on the laws of the seat, joined: the logic, and contracts of functions. Conditions: none.
-/
import Derived.Test.YtojdemmgkdokmaaGreatDoorNmH
import Derived.Test.YtojdemmgkdokmaaGreatDoorPH3
import Derived.Lib.Bytealg
import Derived.Lib.Join
import Derived.Lib.SlTrimSet
set_option linter.all false
set_option maxRecDepth 100000
set_option maxHeartbeats 40000000
open Go.Sx.J renaming z -> aA,op -> aH,perm -> bP,nil -> bV,pull -> bY,persist -> eX
open Bool renaming noConfusion -> aB,false_eq_true -> fA
open Go.Utf8 renaming decode -> aC,encode -> dW
open Go.Proofs.Tryz renaming prog -> aF,zeroCells401 -> fF,func172 -> gJ
open Go.Sx.CG renaming one -> aG,none -> dF
open Go.Sx.Cj renaming region -> aI,ret -> aN,cond -> aQ,seq -> aV,block -> bC,FT -> fP,exit -> fZ
open Go.Ending renaming returned -> aJ
open List renaming perm_middle -> aK,length_cons -> aS,length_nil -> aX,getElem?_eq_some_iff -> bF,length_append -> bI,length_eq_zero_iff -> bW,map_cons -> bZ,mem_cons -> dH,lookup_cons -> dM,cons_append -> dN,mem_reverse -> dR,map_append -> dS,length_map -> dV,dropWhile_cons -> eG,append_assoc -> fG,getElem?_map -> fH,all_eq_true -> fK
open Go.Sx.JA renaming tk -> aO,fix -> fQ
open Eq renaming trans -> aP,symm -> aT
open Ke renaming char -> aU,b6t -> bD,tab -> dG,rows -> dJ,okc -> dP,NI -> dU,VD -> fU,rep -> gG
open Go.Sx.Ej renaming QL -> aW,LM -> aY,keep -> bU,KH -> dA,FN -> dQ,LC -> dZ,round -> eF,rounds -> eP,seq -> eU,persist -> fO
open Go.Sx.AV renaming s -> aZ,z -> bG
open Go.Sx.Pull renaming s -> bH,z -> bM
open List.Sublist renaming cons -> bJ,refl -> fJ
open Go.Sx.zM renaming s -> bK,c -> dK,z -> dL
open Go.Sx.yR renaming TS -> bQ,QE -> gB
open Nat renaming zero_le -> bT
open Go.Lib renaming indexByte -> cO,joinTail -> fV,trimS -> gI
open Go.Value renaming int -> cZ
open Go.Sx.Keeps renaming d -> dB,k -> dI,n -> fE
open Go.Sx.Enters renaming of -> dD
open Go.Sx.Rj renaming succ -> dX
open Go.Sx.Le renaming refl -> dY
open Go.Sx.Src renaming slice -> eH
open Go.Sx renaming str -> eY
open Go.Sx.HSub renaming c -> fB,n -> fC
open Go.Sx.CSub renaming n -> fD
open UInt8 renaming toNat_inj -> fM,ofNat -> gK
namespace Go.Proofs.YtojdemmgkdokmaaGreatDoor
open _root_.Go.Proofs.Tryz
open Go Go.Sx
theorem _root_.Go.Sx.AV.tr{H H'}{i b T:Nat}{f tr v}(h:AV H i (b,yY T (tab f v)) H'):AV H i (b,.cells ((tab f tr).set 256 v).toArray T) H':=by rw[b8W];exact h
theorem _root_.Go.Sx.AV.tb{H H'}{i b T k:Nat}{f:Nat→Value}{tr v:Value}(A:k<256)(h:AV H i (b,yY T (tab (fun j=>if j=k then v else f j) tr)) H'):AV H i (b,.cells ((tab f tr).set k v).toArray T) H':=by rw[c4Z _ _ _ A];exact h
def a2P (olds:List (List UInt8)) (r:Rp.Tb):Prop:=∀(rb:Nat) (a0 a1 a2 a3 osl:Value) (I:Heap),KI 9 I olds osl→yT aF 286 [ptr rb 0] I [(rb,yY 322 [a0,a1,a2,a3,osl])]
 (fun e I' H'=>∃xb,e= .returned (.iface 402 (ptr xb 0))∧BSG r I' xb∧H'=[(rb,yY 322 [a0,a1,a2,a3,osl])])
theorem BSG.two{a b x y}(A:b≠a)(hx:x.length≤2)(hy:y.length≤2){I O Z v2 tr}(h:I O=some (yY 401 (tab (fun j=>if j=a.toNat then v2 else if j=b.toNat then Z else .slice none 0 0) tr)))(h1:a5z I y Z)(h2:a5z I x v2)(h3:KI 9 I [[b],[a]] tr):BSG (Rp.two a x b y) I O:=by
 refine⟨_,tr,[b,a],h,h3,by simp[A],fun c=>?_,sI,fun c z hz=>?_,fun c=>?_⟩
 ·unfold Rp.two
  by_cases ha:c=a
  ·simp[ha]
  by_cases hb:c=b
  ·simp[hb,A]
  simp[ha,hb]
 ·unfold Rp.two at hz
  split at hz
  ·cases hz;exact hx
  split at hz
  ·cases hz;exact hy
  cases hz
 unfold Rp.two
 by_cases ha:c=a
 ·subst ha;exact .inr ⟨x,zG rfl,by rw[zG rfl];exact h2⟩
 have G:¬c.toNat=a.toNat:=fun e=>ha (fM.1 e)
 by_cases hb:c=b
 ·subst hb;exact .inr ⟨y,by rw[zF ha,zG rfl],by rw[zF G,zG rfl];exact h1⟩
 have a0:¬c.toNat=b.toNat:=fun e=>hb (fM.1 e);exact .inl ⟨by rw[zF ha,zF hb],by rw[zF G,zF a0]⟩
theorem b4R A T off cs x (G:cs[off]?=some (.int .u32 x)) I:yT aF 284 [ptr A off] I [(A,yY T cs)] (fun e O H'=>e= .returned (.bool (x != 0))∧H'=[(A,yY T cs)]):=
 yT.c5Y (dD func284 dE rfl) G fun w h=>Sync.b7X ⟨A,off,none⟩ x w h
theorem c5c A T d G r o I:yT aF 311 [ptr A 1] I [(A,yY T [d,.int .i32 0,G,r,o])] (fun e O H'=>e= .returned (.tuple #[])∧H'=[(A,yY T [d,.int .i32 1,G,r,o])]):=
 yT.a7o (off:=1) (dD func311 dE rfl) rfl fun w h h2=>Sync.lock_free ⟨A,1,none⟩ w h h2
theorem b7N A T d G r o I:XA aF 312 [ptr A 1] .returning I [(A,yY T [d,.int .i32 1,G,r,o])] (fun O I' H'=>O= .returning∧H'=[(A,yY T [d,.int .i32 0,G,r,o])]):=
 XA.a7o (off:=1) (v:= .tuple #[]) (dD func312 dE rfl) rfl fun w h h2=>(Sync.unlock_deferred ⟨A,1,none⟩ .returning w h h2).mono fun _ _ _ ⟨Z,g2,g3⟩=>⟨Z,g2,.inl g3⟩
theorem c3f A T x m G r o I:XA aF 313 [ptr A 0,.bool true] .returning I [(A,yY T [x,m,G,r,o])] (fun O I' H'=>O= .returning∧H'=[(A,yY T [.int .u32 1,m,G,r,o])]):=
 XA.a7o (off:=0) (v:= .tuple #[]) (dD func313 dE rfl) rfl fun w h h2=>(Sync.store_deferred ⟨A,0,none⟩ x .returning w h h2).mono fun _ _ _ ⟨Z,g2,g3⟩=>⟨Z,g2,.inr g3⟩
theorem a8F p q r z ob oc I:yT aF 163 [.slice (some ⟨ob,0,none⟩) 4 oc] I [(ob,yY 9 ([p,q,r,z].map str))]
 (fun e I' H'=>∃G h,e= .returned (ptr G 0)∧H'=[(G,yY 322 [.int .u32 0,.int .i32 0,.int .u32 0,.nilIface,h])]∧KI 9 I' [p,q,r,z] h):=by
 refine yT.ob func163 ?_;intro w0 _;refine Cj.sr (aA yQ ?_);refine J.AO (aI (aA yP ?_));refine aA (AU AP) ?_;refine aA (UN rfl rfl rfl dE) ?_;refine aA BO ?_;refine J.c0 (fun _=>?_);refine Cj.ks (Cj.sr (aA yP ?_));refine aH rfl (BJ (by':=15) (n:=0) (g:=none) (xs:=[]) [_] rfl rfl rfl rfl rfl AP (.inr ⟨_,AP⟩) kR zL JG rfl rT rfl (eH (yR.at 0 rfl) rfl rfl rfl) oM ?_);intro _ O;refine aA (zV (pl:= #[(0,3),(3,1),(4,1)]) rfl rfl zeroValue322 rfl a5y (fun w=>by simp[LK,sizeOf318,sizeOf320]) (GN.part rfl (KR _ _) rfl (bK (bK (bK (bK (dK dL))))) GN.none)) ?_;refine aH rfl (BL ?_);intro b3 _;refine aA yQ ?_;refine J.ns (aN ?_);obtain⟨gb,gc,Z,rfl,a0⟩:=O.some dE;refine Ej.pull (bH (bH bM)) ?_;refine fO a0 (fun _ _ A=>?_);refine bU (dI (dB fE)) ?_;refine zN ?_;exact⟨b3,_,rfl,rfl,gb,gc,Z,rfl,A⟩
def a8A (rb:Nat) (d m sm r o:Value):HL:=[(rb,yY 322 [d,m,sm,r,o])]
def c1G (r:Rp.Tb) (I:Heap) (rb:Nat) (d m:Value) (H:HL):Prop:=∃xb,BSG r I xb∧H=a8A rb d m (.int .u32 0) (.iface 402 (ptr xb 0)) (.slice none 0 0)
theorem b3p{A r}(hB:a2P A r) O d m G I (ho:KI 9 I A G):yT aF 220 [ptr O 0] I (a8A O d m (.int .u32 0) .nilIface G)
 (fun e I' H'=>e= .returned (.tuple #[])∧c1G r I' O d m H'):=by
 refine yT.ob func220 ?_;intro w0 _;refine Cj.sr (aA yP ?_);refine aA yP ?_;refine bY bM ?_;refine aH rfl (yS (H1:=[_]) rfl rfl rfl rfl rfl (hB O _ _ _ _ G _ ho) ?_ (fun _ _ _ _ ⟨_,h,_⟩=>by cases h) (fun _ _ ⟨_,h,_⟩=>by cases h));intro _ _ _ _ Z;obtain⟨xb,h,a0,rfl⟩:=Z;cases h;refine aA zW ?_;refine aA (qq2 (off':=3) a5y sizeOf320) ?_;refine aH rfl (zS 0 sizeOf320 (bK (bK (bK (dK dL)))) bG ?_);refine J.GL (aA yP ?_);refine aA zW ?_;refine aA (qq2 (off':=4) a5y LK) ?_;refine aH rfl (zS 0 LK (bK (bK (bK (bK (dK dL))))) bG ?_);refine bV (Ej.TK rfl rfl ?_);exact⟨rfl,xb,a0,rfl⟩
theorem c0D{Z r}(hB:a2P Z r) A a0 I (G:KI 9 I Z a0):yT aF 285 [ptr A 0,.func (.func 220) #[ptr A 0] #[]] I (a8A A (.int .u32 0) (.int .i32 0) (.int .u32 0) .nilIface a0)
 (fun e I' H'=>e= .returned (.tuple #[])∧c1G r I' A (.int .u32 1) (.int .i32 0) H'):=by
 refine yT.b3i func285 rfl dE (Nat.le_of_ble_eq_true rfl) ?_;intro w0 _;refine Cj.sr (aA yP ?_);refine aA zW ?_;refine aA (qq2 (off':=1) a7e sizeOf316) ?_;refine bY bM ?_;refine aH rfl (yS (H1:=[_]) rfl rfl rfl rfl rfl (c5c A 322 _ _ _ _ _) ?_ (fun _ _ _ _ h=>by cases h.1) (fun _ _ h=>by cases h.1));intro _ _ _ a3 a6;have G:=G.mono a3;obtain⟨h,rfl⟩:=a6;cases h;refine J.yV (aA yP ?_);refine aA zW ?_;refine aA (qq2 (off':=1) a7e sizeOf316) ?_;refine J.defer rfl rfl rfl rfl rfl ?_;refine J.yV (aA yP ?_);refine aA zW ?_;refine aA (qq2 (off':=0) a7e sizeOf312) ?_;refine bY bM ?_;refine aH rfl (yS (H1:=[_]) rfl rfl rfl rfl rfl (b4R A 322 0 _ 0 rfl _) ?_ (fun _ _ _ _ h=>by cases h.1) (fun _ _ h=>by cases h.1));intro _ _ _ O a4;have G:=G.mono O;obtain⟨h,rfl⟩:=a4;cases h;refine aA (ER rfl rfl) ?_;refine J.ns (aQ rfl (fun a1=>?_) (fun a1=>aB (aP (aT (zD not rfl)) a1)));refine Cj.sr (aA yP ?_);refine aA zW ?_;refine aA (qq2 (off':=0) a7e sizeOf312) ?_;refine J.defer rfl rfl rfl rfl rfl ?_;refine J.GL (aA yP ?_);refine bY bM ?_;refine aH rfl (yS (H1:=[_]) rfl rfl rfl rfl rfl (b3p hB A _ _ a0 _ G) ?_ (fun _ _ _ _ h=>by cases h.1) (fun _ _ h=>by cases h.1));intro _ _ _ a2 a5;have G:=G.mono a2;obtain⟨h,xb,a7,rfl⟩:=a5;cases h;refine bV (Ej.c6Q (H1:=[_]) (R1:=[]) rfl (c3f A 322 _ _ _ _ _ _) (fun _=>b7N A 322 _ _ _ _ _) (fun _ O=>a4m.none rfl ?_));exact⟨rfl,xb,a7.mono O,rfl⟩
theorem c7o{G r}(hB:a2P G r) A O I (Z:KI 9 I G O):yT aF 219 [ptr A 0,.func (.func 220) #[ptr A 0] #[]] I (a8A A (.int .u32 0) (.int .i32 0) (.int .u32 0) .nilIface O)
 (fun e I' H'=>e= .returned (.tuple #[])∧c1G r I' A (.int .u32 1) (.int .i32 0) H'):=by
 refine yT.ob func219 ?_;intro w0 _;refine Cj.sr (aA yP ?_);refine aA zW ?_;refine aA (qq2 (off':=0) a7e sizeOf312) ?_;refine bY bM ?_;refine aH rfl (yS (H1:=[_]) rfl rfl rfl rfl rfl (b4R A 322 0 _ 0 rfl _) ?_ (fun _ _ _ _ h=>by cases h.1) (fun _ _ h=>by cases h.1));intro _ _ _ a2 a4;have Z:=Z.mono a2;obtain⟨h,rfl⟩:=a4;cases h;refine aA (ER rfl rfl) ?_;refine J.ns (aQ rfl (fun a1=>?_) (fun a1=>aB (aP (aT (zD not rfl)) a1)));refine aI (aA yP ?_);refine aA yP ?_;refine bY bM ?_;refine aH rfl (yS (H1:=[_]) rfl rfl rfl rfl rfl (c0D hB A O _ Z) ?_ (fun _ _ _ _ h=>by cases h.1) (fun _ _ h=>by cases h.1));intro _ _ _ a0 a3;have Z:=Z.mono a0;obtain⟨h,xb,a5,rfl⟩:=a3;cases h;refine bV (Ej.TK rfl rfl ?_);exact⟨rfl,xb,a5,rfl⟩
theorem b6D{A r}(hB:a2P A r) O G s (hs:s.length≤1000000000) I (Z:KI 9 I A G):yT aF 164 [ptr O 0,str s] I (a8A O (.int .u32 0) (.int .i32 0) (.int .u32 0) .nilIface G)
 (fun e I' H'=>e= .returned (str (Rp.rep r s))∧H'=[]):=by
 refine yT.ob func164 ?_;intro w0 _;refine Cj.sr (aA yQ ?_);refine J.yV (aA yP ?_);refine aA zW ?_;refine aA (qq2 (off':=0) a5y sizeOf318) ?_;refine aA yP ?_;refine aA (EH rfl rfl rfl) ?_;refine bY bM ?_;refine aH rfl (yS (H1:=[_]) rfl rfl rfl rfl rfl (c7o hB O G _ Z) ?_ (fun _ _ _ _ h=>by cases h.1) (fun _ _ h=>by cases h.1));intro _ _ _ a0 a1;have Z:=Z.mono a0;obtain⟨h,xb,a2,rfl⟩:=a1;cases h;refine J.yV (aA yP ?_);refine aA zW ?_;refine aA (qq2 (off':=3) a5y sizeOf320) ?_;refine aA (yX isAgg320 (yR.at 0 rfl)) ?_;refine aA yP ?_;refine aH rfl (b9T (H1:=[]) (T:=402) rfl rfl rfl rfl rfl kR underlying402 (c3p _ xb s hs _ a2) ?_ (fun _ _ _ _ h=>by cases h.1) (fun _ _ h=>by cases h.1));rintro _ _ _ _ ⟨h,rfl,rfl⟩;cases h;refine aA yQ ?_;refine J.ns (aN (Ej.bare ?_));refine zN ?_;exact rT
theorem b4M:(Value.agg fF).cells=(tab (fun _=> .slice none 0 0) (.slice none 0 0)).toArray:=by
 show fF=_;kernel_rfl
theorem c0K:a2P [[32],[],[45],[]] (Rp.two 32 [] 45 []):=by
 intro _ _ _ _ _ _ I ho;obtain⟨ob,_,_,rfl,h⟩:=ho;rw[show([[32],[],[45],[]]:List (List UInt8)).length=4 from rfl];refine yT.ob func286 ?_;intro w0 _;refine Cj.sr (aA yQ ?_);refine J.yV (aA yP ?_);refine aA zW ?_;refine aA (qq2 (off':=4) a5y LK) ?_;refine aA (yX RX (yR.at 0 rfl)) ?_;refine aA yQ ?_;refine J.AO (aI (aA yP ?_));refine aA (AU AP) ?_;refine aA BO ?_;refine aA yP ?_;refine J.sk 3 22 23 (by first|rfl|decide) ?_;refine J.sk 3 22 24 (by first|rfl|decide) ?_;refine J.sk 3 22 25 (by first|rfl|decide) ?_;refine J.sk 3 22 26 (by first|rfl|decide) ?_;refine J.sk 3 22 27 (by first|rfl|decide) ?_;refine aA (a0e rfl rfl (by first|rfl|decide) rfl) ?_;refine J.c0 (fun _=>?_);refine Cj.ks (Cj.sr (aA yQ ?_));refine J.AO (aI (aA yQ ?_));refine J.ns (bC (Cj.rounds 3 ?_));refine dX ?_;refine aV (Cj.sr (aA yP ?_));refine aA yP ?_;refine aA (AU AP) ?_;refine aA BM ?_;refine J.ns (aQ rfl (fun a5=>?_) (fun a5=>aB (aP (aT (by first|rfl|decide)) a5)));refine Cj.ks (aV (bC (aV (Cj.sr (aA yP ?_)))));refine aA yP ?_;refine aA (BZ (off':=0) rfl rfl rfl AP zL dE dE dE) ?_;refine aA (yX BX (bQ h)) ?_;refine aA (GK BF) ?_;refine aA EY ?_;refine J.ns (aQ rfl (fun a6=>aB (aP (aT (by first|rfl|decide)) a6)) (fun a6=>?_));refine Cj.ks (Cj.sr (aA yP ?_));refine aA yP ?_;refine aA (yZ rfl rfl rfl (AA oM)) ?_;refine aA (BZ (off':=1) rfl rfl rfl AP zL dE dE dE) ?_;refine aA (yX BX (bQ h)) ?_;refine aA (GK BF) ?_;refine aA EY ?_;refine J.ns (aQ rfl (fun a7=>?_) (fun a7=>aB (aP (aT (by first|rfl|decide)) a7)));refine aI (aA yQ ?_);refine J.nb (aI (aA yP ?_));refine aA (yZ rfl rfl rfl (AA oM)) ?_;refine aA yQ ?_;refine bV (eP ?_);refine dX ?_;refine aV (Cj.sr (aA yP ?_));refine aA yP ?_;refine aA (AU AP) ?_;refine aA BM ?_;refine J.ns (aQ rfl (fun a8=>?_) (fun a8=>aB (aP (aT (by first|rfl|decide)) a8)));refine Cj.ks (aV (bC (aV (Cj.sr (aA yP ?_)))));refine aA yP ?_;refine aA (BZ (off':=2) rfl rfl rfl AP zL dE dE dE) ?_;refine aA (yX BX (bQ h)) ?_;refine aA (GK BF) ?_;refine aA EY ?_;refine J.ns (aQ rfl (fun a9=>aB (aP (aT (by first|rfl|decide)) a9)) (fun a9=>?_));refine Cj.ks (Cj.sr (aA yP ?_));refine aA yP ?_;refine aA (yZ rfl rfl rfl (AA oM)) ?_;refine aA (BZ (off':=3) rfl rfl rfl AP zL dE dE dE) ?_;refine aA (yX BX (bQ h)) ?_;refine aA (GK BF) ?_;refine aA EY ?_;refine J.ns (aQ rfl (fun aa=>?_) (fun aa=>aB (aP (aT (by first|rfl|decide)) aa)));refine aI (aA yQ ?_);refine J.nb (aI (aA yP ?_));refine aA (yZ rfl rfl rfl (AA oM)) ?_;refine aA yQ ?_;refine bV (eP ?_);refine dX ?_;refine aV (Cj.sr (aA yP ?_));refine aA yP ?_;refine aA (AU AP) ?_;refine aA BM ?_;refine J.ns (aQ rfl (fun ab=>aB (aP (aT (by first|rfl|decide)) ab)) (fun ab=>?_));refine fZ (dA (dA (dZ (eU (aV (Cj.sr (aA yP ?_)))))));refine J.c0 (fun _=>?_);refine Cj.ks (Cj.sr (aA yP ?_));refine aA (AU AP) ?_;refine aA (b2j rfl rfl rfl dE dE) ?_;refine aH rfl (a4R (n:=0) (c:=2) (by1:=16) (z:=(str [])) rfl rfl rfl rfl rfl AP kR rfl oM oM oM ?_);intro ac ad;refine aA (zV (zs:=tab (fun _=> .slice none 0 0) (.slice none 0 0)) (cs:=tab (fun _=> .slice none 0 0) (.slice (some ⟨ac,0,none⟩) 0 2)) (pl:= #[(0,256),(256,1)]) rfl rfl zeroValue401 b4M OL (fun w=>by simp[WR,LK]) (GN.part rfl rfl rfl (c4I _ _ _) GN.none)) ?_;refine aH rfl (b2C (zs:=tab (fun _=> .slice none 0 0) (.slice none 0 0)) rfl rfl rfl zeroValue401 b4M ?_);intro al ae;refine aH rfl (EM 0 rfl rfl rfl rfl rfl (c5k (fun _=>rfl) rfl) sizeOf401 (QU _ _) rfl (zM.all (by rw[QU,QU])) bG ?_);refine bY bM ?_;refine bY (bH (bH bM)) ?_;refine J.AO (aI (aA yP ?_));refine aA (AU AP) ?_;refine aA (IC rfl rfl rfl (AA oM)) ?_;refine aA yQ ?_;refine J.ns (bC (Cj.rounds 3 ?_));refine dX ?_;refine aV (Cj.sr (aA yP ?_));refine aA (MC rfl rfl rfl) ?_;refine J.ns (aQ rfl (fun Z=>?_) (fun Z=>aB (aP (aT (by first|rfl|decide)) Z)));refine Cj.ks (aV (bC (Cj.sr (aA yP ?_))));refine aA yP ?_;refine aA (BZ (off':=2) rfl rfl rfl AP zL dE dE dE) ?_;refine aA (yX BX (bQ h)) ?_;refine aA (DU (c:=45) rfl rfl rfl BF dE rfl) ?_;refine aA yQ ?_;refine J.yV (aA yP ?_);refine aA yP ?_;refine aA (yZ rfl rfl rfl (AA oM)) ?_;refine aA (BZ (off':=3) rfl rfl rfl AP zL dE dE dE) ?_;refine aA (yX BX (bQ h)) ?_;refine aA yQ ?_;refine J.AO (aI (aA yP ?_));refine aA (qq2 (off':=0) OL WR) ?_;refine aA (FD (off':=45) rfl rfl rfl XW JM dE dE dE) ?_;refine aA (FY rfl rfl PK (yR.at 1 rfl) (UE _ _ dE)) ?_;refine J.eqv 116 rfl (show _= .slice none 0 0 from(by first|rfl|exact zF dE)) ?_;refine aA (a6d _ rfl rfl rfl ES) ?_;refine J.c1 (fun _=>?_);refine aI (aA (qq2 (off':=256) OL LK) ?_);refine aA (EN RX (yR.at 1 rfl) (a8t _ _)) ?_;refine aA yP ?_;refine aH rfl (AZ ES RF tZ5 (aG rfl dF) ?_);intro _ _;refine aA (ZV [45] rfl rfl rfl ES BF ZJ (yR.at 0 rfl) rfl) ?_;refine aH rfl (AZ AP zL JG (aG rfl dF) ?_);intro _ _;refine aH rfl (BJ (by':=15) (n:=0) (g:=some (ac,2,List.replicate 2 (str []))) (xs:=[]) [_,_,_,_] rfl rfl rfl rfl rfl AP (.inr ⟨_,AP⟩) kR zL JG rfl ⟨ad,rfl,rfl⟩ rfl (eH (yR.at 0 rfl) rfl rfl rfl) oM ?_);intro _ af;refine aA (qq2 (off':=256) OL LK) ?_;refine aH rfl (MK 3 rfl rfl rfl rfl (a9N _ _) (b4O _ _) LK rfl (.inl rfl) (by rw[QU];decide) (AV.tr (aZ (aZ (aZ bG)))) ?_);refine J.GL (aA yP ?_);refine aA yP ?_;refine aH rfl (YE rfl rfl rfl rfl BF ES ZJ ?_);intro am _ _ _ ag _;refine eX ag (fun _ a3 A=>?_);have h:=a3 _ _ h;refine aA (qq2 (off':=0) OL WR) ?_;refine aA (FD (off':=45) rfl rfl rfl XW JM dE dE dE) ?_;refine aH rfl (MK 3 rfl rfl rfl rfl rfl rfl JM rfl (.inl rfl) (by rw[QU];decide) (AV.tb dE (aZ (aZ (aZ bG)))) ?_);refine J.nb (aI (aA yP ?_));refine aA (IC rfl rfl rfl (AA oM)) ?_;refine aA yQ ?_;refine bV (eP ?_);refine dX ?_;refine aV (Cj.sr (aA yP ?_));refine aA (MC rfl rfl rfl) ?_;refine J.ns (aQ rfl (fun a0=>?_) (fun a0=>aB (aP (aT (by first|rfl|decide)) a0)));refine Cj.ks (aV (bC (Cj.sr (aA yP ?_))));refine aA yP ?_;refine aA (BZ (off':=0) rfl rfl rfl AP zL dE dE dE) ?_;refine aA (yX BX (bQ h)) ?_;refine aA (DU (c:=32) rfl rfl rfl BF dE rfl) ?_;refine aA yQ ?_;refine J.yV (aA yP ?_);refine aA yP ?_;refine aA (yZ rfl rfl rfl (AA oM)) ?_;refine aA (BZ (off':=1) rfl rfl rfl AP zL dE dE dE) ?_;refine aA (yX BX (bQ h)) ?_;refine aA yQ ?_;refine J.AO (aI (aA yP ?_));refine aA (qq2 (off':=0) OL WR) ?_;refine aA (FD (off':=32) rfl rfl rfl XW JM dE dE dE) ?_;refine aA (FY rfl rfl PK (yR.at 3 rfl) (UE _ _ dE)) ?_;refine J.eqv 116 rfl (show _= .slice none 0 0 from(by first|rfl|exact zF dE)) ?_;refine aA (a6d _ rfl rfl rfl ES) ?_;refine J.c1 (fun _=>?_);refine aI (aA (qq2 (off':=256) OL LK) ?_);refine aA (EN RX (yR.at 3 rfl) (a8t _ _)) ?_;refine aA yP ?_;refine aH rfl (AZ ES RF tZ5 (aG rfl dF) ?_);intro _ _;refine aA (ZV [32] rfl rfl rfl ES BF ZJ (yR.at 0 rfl) rfl) ?_;refine aH rfl (AZ AP zL JG (aG rfl dF) ?_);intro _ _;refine aH rfl (BJ (by':=15) [_,_,_,_,_,_] rfl rfl rfl rfl rfl AP (.inr ⟨_,AP⟩) kR zL JG rfl af rfl (eH (yR.at 0 rfl) rfl rfl rfl) oM ?_);intro _ ah;refine aA (qq2 (off':=256) OL LK) ?_;refine aH rfl (MK 5 rfl rfl rfl rfl (a9N _ _) (b4O _ _) LK rfl (.inl rfl) (by rw[QU];decide) (AV.tr (aZ (aZ (aZ (aZ (aZ bG)))))) ?_);refine J.GL (aA yP ?_);refine aA yP ?_;refine aH rfl (YE rfl rfl rfl rfl BF ES ZJ ?_);intro an _ _ _ ai _;refine eX ai (fun _ O a4=>?_);have h:=O _ _ h;have A:=O _ _ A;refine aA (qq2 (off':=0) OL WR) ?_;refine aA (FD (off':=32) rfl rfl rfl XW JM dE dE dE) ?_;refine aH rfl (MK 5 rfl rfl rfl rfl rfl rfl JM rfl (.inl rfl) (by rw[QU];decide) (AV.tb dE (aZ (aZ (aZ (aZ (aZ bG)))))) ?_);refine J.nb (aI (aA yP ?_));refine aA (IC rfl rfl rfl (AA oM)) ?_;refine aA yQ ?_;refine bV (eP ?_);refine dX ?_;refine aV (Cj.sr (aA yP ?_));refine aA (MC rfl rfl rfl) ?_;refine J.ns (aQ rfl (fun a1=>aB (aP (aT (by first|rfl|decide)) a1)) (fun a1=>?_));refine fZ (dA (dA (dZ (eU (Cj.sr (aA (a4B rfl rfl underlying402 rfl) ?_))))));refine aA yQ ?_;refine J.ns (aN ?_);obtain⟨gb,gc,ao,rfl,ap⟩:=ah.some dE;refine Ej.pull (bH (bH (bH (bH (bH (bH bM)))))) ?_;refine fO ap (fun _ a2 aj=>?_);refine Ej.pull (bH (bH (bH (bH (bH bM))))) ?_;refine fO ae (fun _ G ak=>?_);refine bU (dB (dB (dB (dB (dI fE))))) ?_;refine zN ?_;exact⟨al,rfl,BSG.two dE dE dE ak ⟨am,_,_,_,rfl,G _ _ (a2 _ _ A)⟩ ⟨an,_,_,_,rfl,G _ _ (a2 _ _ a4)⟩ ⟨gb,gc,ao,rfl,G _ _ aj⟩,rfl⟩
theorem c4u s:Rp.rep (Rp.two 32 [] 45 []) s=gG s:=by
 induction s with
 |nil=>rfl
 |cons c s h=>
  show Rp.one _ c++Rp.rep _ s=gG (c::s);rw[h];unfold gG Rp.one Rp.two;rw[List.filter_cons,Ke.c7u]
  by_cases h1:c=32
  ·simp[h1]
  by_cases h2:c=45
  ·simp[h2]
  simp[h1,h2]
theorem b4n A h s (hs:s.length≤1000000000) I (G:KI 9 I [[32],[],[45],[]] h):yT aF 164 [ptr A 0,str s] I (a8A A (.int .u32 0) (.int .i32 0) (.int .u32 0) .nilIface h) (fun e O H'=>e= .returned (str (gG s))∧H'=[]):=by
 rw[←c4u];exact b6D c0K A h s hs I G
end Go.Proofs.YtojdemmgkdokmaaGreatDoor
namespace Ke
open Go Go.Sx
def a3M:Nat→List (Nat×Bs)→ML Int
 |_,[]=>[]
 |i,(c,s)::r=>((c:Int),eY s,i)::a3M (i+1) r
def a1q (l:List (Nat×Bs)):ML Int:=a3M 0 l
theorem cc(c d:Nat):((c:Int) == (d:Int))=(c == d):=by rw[Bool.eq_iff_iff,beq_iff_eq,beq_iff_eq];omega
theorem a6O:∀(l:List (Nat×Bs)) (i c:Nat),BK (a3M i l) (c:Int)=(l.lookup c).map eY
 |[],_,_=>rfl
 |(d,s)::r,i,c=>by
  simp only[a3M,BK,cc,dM]
  by_cases h:c=d
  ·subst h;simp
  have:(c == d)=false:=by simpa using h
  rw[this];simp only[fA,if_false];exact a6O r (i+1) c
theorem b2d:∀(l:List (Nat×Bs)) (i c:Nat) (s:Bs),c ∉ l.map (·.1)→BU (a3M i l) (c:Int) (eY s) (i+l.length)=a3M i (l++[(c,s)])
 |[],_,_,_,_=>rfl
 |(d,t)::r,i,c,s,h=>by
  simp only[bZ,dH,not_or]at h;have:(c == d)=false:=by simpa using h.1
  simp only[a3M,BU,cc,this,dN,aS];simp only[fA,if_false];rw[←b2d r (i+1) c s h.2,show i+1+r.length=i+(r.length+1) by omega]
theorem a6f:∀{l:List (Nat×Bs)} {c:Nat},c ∉ l.map (·.1)→l.lookup c=none
 |[],_,_=>rfl
 |(d,t)::r,c,h=>by
  simp only[bZ,dH,not_or]at h;have:(c == d)=false:=by simpa using h.1
  rw[dM,this];exact a6f h.2
theorem b2G{l}{c:Nat}{s}(h:c ∉ l.map (·.1)):BU (a1q l) (c:Int) (eY s) l.length=a1q (l++[(c,s)])∧FI (a1q l) (c:Int) l.length=(l++[(c,s)]).length:=by
 refine⟨by have:=b2d l 0 c s h;rwa [Nat.zero_add]at this,?_⟩;unfold FI a1q;rw[a6O,a6f h];simp
def b1b:List Bs:=rows.map fun p=>p.1++32::p.2
theorem a3n:∀(x y:List (Bs×Bs)),NI (x++y)=NI x++NI y
 |[],_=>rfl
 |(a,b)::r,y=>by simp only[dN,NI,a3n r y,fG]
theorem b4d{k a b}(h:rows[k]?=some (a,b)):NI (rows.take (k+1))=NI (rows.take k)++(runes b).map (·,a):=by
 obtain⟨A,hg⟩:=bF.1 h;rw[List.take_succ_eq_append_getElem A,hg,a3n];simp[NI]
theorem fresh{k c a b x y}(h:rows[k]?=some (a,b))(hr:runes b=x++c::y):c ∉ (NI (rows.take k)++x.map (·,a)).map (·.1):=by
 have hn:=b9q;have e:rows=rows.take k++(a,b)::rows.drop (k+1):=by
  obtain⟨A,hg⟩:=bF.1 h;rw[←hg,←List.drop_eq_getElem_cons A,List.take_append_drop]
 rw[←b9g,e,a3n]at hn;simp only[NI,hr,dS,bZ]at hn;have O:(NI (rows.take k)).map (·.1)++((x.map (·,a)).map (·.1)++c::(y.map (·,a)).map (·.1)++(NI (rows.drop (k+1))).map (·.1))=((NI (rows.take k)).map (·.1)++(x.map (·,a)).map (·.1))++c::((y.map (·,a)).map (·.1)++(NI (rows.drop (k+1))).map (·.1)):=sI;rw[O,List.nodup_append]at hn;intro G;rw[dS]at G;exact hn.2.2 c G c (.head _) rfl
theorem b8X:∀p∈rows,p.1.all (fun c=>decide (c≠32))=true∧p.1.length≤10∧p.2.length≤100:=by decide +kernel
def cutAt (c:UInt8):Bs→Bs×Bs×Bool
 |[]=>([],[],false)
 |d::r=>if d=c then([],r,true)else(d::(cutAt c r).1,(cutAt c r).2)
theorem b0s:∀{a b:Bs} {c:UInt8},a.all (fun d=>decide (d≠c))=true→cutAt c (a++c::b)=(a,b,true)
 |[],b,c,_=>by simp[cutAt]
 |d::r,b,c,h=>by
  rw[List.all_cons,Bool.and_eq_true]at h;have h1:d≠c:=zB h.1;simp only[dN,cutAt,zF h1,b0s h.2]
theorem a4S:∀(c:UInt8) (s:Bs),(cO s c= -1∧cutAt c s=(s,[],false))∨∃n:Nat,cO s c=n∧n<s.length∧cutAt c s=(s.take n,s.drop (n+1),true)
 |c,[]=> .inl rT
 |c,d::r=>by
  unfold cO
  by_cases hd:d=c
  ·subst hd;exact .inr ⟨0,sI,sI,by simp[cutAt]⟩
  have h:(d == c)=false:=by simpa using hd
  rw[h];rcases a4S c r with⟨h1,h2⟩|⟨n,A,O,G⟩
  ·rw[h1];exact .inl ⟨sI,by simp[cutAt,hd,h2]⟩
  rw[A];have hn:((n:Int) == -1)=false:=by
   rw[beq_eq_false_iff_ne];omega
  rw[hn];exact .inr ⟨n+1,sI,by simp;omega,by simp[cutAt,hd,G]⟩
theorem a6b{b i x}(h:runes b=x++runes (b.drop i))(A:i<b.length):runes b=x++(aC ⟨b.toArray⟩ i).1::runes (b.drop (i+(aC ⟨b.toArray⟩ i).2)):=by
 rw[h,a3h A]
theorem b3w{b i x}(h:runes b=x++runes (b.drop i))(A:i<b.length):runes b=(x++[(aC ⟨b.toArray⟩ i).1])++runes (b.drop (i+(aC ⟨b.toArray⟩ i).2)):=by
 rw[a6b h A];simp
theorem b6X{b i x}(h:runes b=x++runes (b.drop i))(A:¬i<b.length):runes b=x:=by
 rw[h,a4y oM,List.append_nil]
end Ke
namespace Go.Proofs.YtojdemmgkdokmaaGreatDoor
open _root_.Go.Proofs.Tryz
open Go Go.Sx
def Tab (I:Heap) (b:Nat):Prop:=I b=some (BD (fun a:Int=>cZ .i32 a) (Ke.a1q dG) 207)
theorem Tab.mono{I A b}(h:Tab I b)(G:Le I A):Tab A b:=G _ _ h
theorem a0r{a b:Prop}[Decidable a][Decidable b](h:(decide a && decide b)=true):a∧b:=by simpa using h
theorem a0q{a b:Prop}[Decidable a][Decidable b](h:(decide a && decide b)=false):¬(a∧b):=fun g=>by simp[g.1,g.2]at h
theorem LX c a b I:Pure aF 224 [.int .i32 c,.int .i32 a,.int .i32 b] I (.bool (decide (a≤c) && decide (c≤b))):=by
 refine yT.ob func224 ?_;intro w0 _;refine Cj.sr (aA yQ ?_);refine J.yV (aA yP ?_);refine aA yP ?_;refine aA (MC rfl rfl rfl) ?_;refine aA yP ?_;refine J.split 10 rfl (fun A=>?_) (fun A=>?_)
 ·refine zU 3 10 true A (zK yP ?_);refine zU 3 10 true A (zK yP ?_);refine zU 3 10 true A (zK (WA rfl rfl rfl) ?_);refine aA (DY A) ?_;refine aA yQ ?_;refine J.ns (aN (zN ?_));refine⟨?_,rfl,rfl⟩;have h:=A
  first|(simp_all;done)|(simp_all;omega)
 refine zO 3 10 11 true A ?_;refine zO 3 10 12 true A ?_;refine zO 3 10 13 true A ?_;refine aA (DV A) ?_;refine aA yQ ?_;refine J.ns (aN (zN ?_));refine⟨?_,rfl,rfl⟩;have h:=A
 first|(simp_all;done)|(simp_all;omega)
theorem c4Y(c b:Nat)(hc:c≤1114111) I (hT:Tab I b):Pure aF 174 [.int .i32 (c:Int),.map (some b)] I (str (aU c)):=by
 have hm:BK (Ke.a1q dG) (c:Int)=(dG.lookup c).map str:=Ke.a6O _ 0 c;refine yT.ob func174 ?_;intro w0 _;refine Cj.sr (aA yQ ?_);refine J.nss (bC (aV (Cj.sr (aA yP ?_))));refine aH rfl (yU rfl rfl rfl rfl rfl (LX _ _ _ _) ?_);refine aA yQ ?_;refine J.cd (fun a5=>?_) (fun a5=>?_)
 ·have b6:=a0r a5;refine Cj.ks (aQ rfl (fun af=>?_) (fun af=>aB (aP (aT a5) af)));refine Cj.sr (aA yP ?_);refine aA (LW rfl rfl a0Q BF) ?_;refine aA yQ ?_;refine J.ns (aN (aW (aY (zN ?_))));refine⟨?_,rfl,rfl⟩;refine zD (fun l=>aJ (str l)) ?_;unfold aU;rw[zG oM];exact bD (by unfold dP;omega)
 have b7:=a0q a5;refine aI (aA yP ?_);refine aH rfl (yU rfl rfl rfl rfl rfl (LX _ _ _ _) ?_);refine aA yQ ?_;refine J.cd (fun a7=>?_) (fun a7=>?_)
 ·have b8:=a0r a7;refine Cj.sr (aA yP ?_);refine aA (LW rfl rfl a0Q BF) ?_;refine aA yQ ?_;refine J.ns (aN (aW (aY (zN ?_))));refine⟨?_,rfl,rfl⟩;refine zD (fun l=>aJ (str l)) ?_;unfold aU;rw[zG oM];exact bD (by unfold dP;omega)
 have b9:=a0q a7;refine Cj.sr (aA yP ?_);refine aH rfl (yU rfl rfl rfl rfl rfl (LX _ _ _ _) ?_);refine aA yQ ?_;refine J.cd (fun a8=>?_) (fun a8=>?_)
 ·have b1:=a0r a8;refine Cj.sr (aA yP ?_);refine aA (yZ rfl rfl rfl (b7m oM)) ?_;refine aA (LW rfl rfl a0Q BF) ?_;refine aA yQ ?_;refine J.ns (aN (aW (aY (zN ?_))));refine⟨?_,rfl,rfl⟩;refine zD (fun l=>aJ (str l)) ?_;unfold aU;rw[zF oM,zG oM];exact(zD (fun n:Int=>(dW n).data.toList) oM).trans (bD (c:=c+32) (by unfold dP;omega))
 have b2:=a0q a8;refine Cj.sr (aA yP ?_);refine aA BM ?_;refine aA yQ ?_;refine J.cd (fun a1=>?_) (fun a1=>?_)
 ·have ah:=BH a1;have b3:=BH a1;refine Cj.sr (aA yQ ?_);refine J.ns (aN (aW (aY (zN ?_))));refine⟨?_,rfl,rfl⟩;refine zD (fun l=>aJ (str l)) ?_;unfold aU;rw[zF oM,zF oM,zG oM]
 have ah:=BN a1;have b4:=BN a1;refine aV (Cj.sr (aA yP ?_));refine aH rfl (yU rfl rfl rfl rfl rfl (LX _ _ _ _) ?_);refine aA yQ ?_;refine J.cd (fun a6=>?_) (fun a6=>?_)
 ·have b5:=a0r a6;refine Cj.ks (aQ rfl (fun ag=>?_) (fun ag=>aB (aP (aT a6) ag)));refine Cj.sr (aA yQ ?_);refine J.ns (aN (aW (aY (zN ?_))));refine⟨?_,rfl,rfl⟩;refine zD (fun l=>aJ (str l)) ?_;unfold aU;rw[zF oM,zF oM,zF oM,zG oM]
 have ai:=a0q a6;refine aI (aA yP ?_);refine aH rfl (yU rfl rfl rfl rfl rfl (LX _ _ _ _) ?_);refine aA yQ ?_;refine J.cd (fun a9=>?_) (fun a9=>?_)
 ·have aj:=a0r a9;refine Cj.sr (aA yQ ?_);refine J.ns (aN (aW (aY (zN ?_))));refine⟨?_,rfl,rfl⟩;refine zD (fun l=>aJ (str l)) ?_;unfold aU;rw[zF oM,zF oM,zF oM,zG oM]
 have ak:=a0q a9;refine Cj.kb (aV (Cj.sr (aA yP ?_)));refine aA yP ?_;refine aA (ZH (kv:=fun a:Int=>cZ .i32 a) (l:=Ke.a1q dG) (a:=(c:Int)) rfl rfl rfl rfl underlying267 (IK.int a0Q) JG (bQ hT)) ?_;refine aA yP ?_;refine aA AQ ?_;refine aA AQ ?_;refine aA yQ ?_;refine aA yQ ?_;refine J.yV (aA yP ?_);refine J.cd (fun aa=>?_) (fun aa=>?_)
 ·obtain⟨x,O⟩:=Option.isSome_iff_exists.1 (show(dG.lookup c).isSome=true by have h:=aa;rw[hm]at h;simpa using h);refine Cj.eqv 5 rfl (show _=str x from(by rw[hm,O];rfl)) ?_;refine Cj.sr (aA yP ?_);refine aA yQ ?_;refine J.ns (Cj.rs (zN ?_));refine⟨?_,rfl,rfl⟩;refine zD (fun l=>aJ (str l)) ?_;unfold aU;rw[zF oM,zF oM,zF oM,zF oM,O]
 have O:dG.lookup c=none:=by have h:=aa;rw[hm]at h;simpa using h
 refine Cj.ks (aV (bC (Cj.sr (aA yP ?_))));refine aA BO ?_;refine aA yQ ?_;refine J.cd (fun Z=>?_) (fun Z=>?_)
 ·have ad:=CS Z;have al:=CS Z;refine Cj.sr (aA yQ ?_);refine J.ns (aN (aW (aY (zN ?_))));refine⟨?_,rfl,rfl⟩;refine zD (fun l=>aJ (str l)) ?_;unfold aU;rw[zF oM,zF oM,zF oM,zF oM,O];simp only;rw[zG oM];rfl
 have ad:=CX Z;have am:=CX Z;refine aV (Cj.sr (aA yP ?_));refine aH rfl (yU rfl rfl rfl rfl rfl (LX _ _ _ _) ?_);refine aA yQ ?_;refine J.cd (fun a0=>?_) (fun a0=>?_)
 ·have an:=a0r a0;refine Cj.ks (aQ rfl (fun ab=>?_) (fun ab=>aB (aP (aT a0) ab)));refine Cj.sr (aA yP ?_);refine aA (LW rfl rfl a0Q BF) ?_;refine aA yQ ?_;refine J.ns (aN (aW (aY (zN ?_))));refine⟨?_,rfl,rfl⟩;refine zD (fun l=>aJ (str l)) ?_;unfold aU;rw[zF oM,zF oM,zF oM,zF oM,O];simp only;rw[zF oM,zG oM];exact bD (by unfold dP;omega)
 have ao:=a0q a0;refine aI (aA yP ?_);refine aH rfl (yU rfl rfl rfl rfl rfl (LX _ _ _ _) ?_);refine aA yQ ?_;refine J.cd (fun a2=>?_) (fun a2=>?_)
 ·have ap:=a0r a2;refine Cj.sr (aA yP ?_);refine aA (LW rfl rfl a0Q BF) ?_;refine aA yQ ?_;refine J.ns (aN (aW (aY (zN ?_))));refine⟨?_,rfl,rfl⟩;refine zD (fun l=>aJ (str l)) ?_;unfold aU;rw[zF oM,zF oM,zF oM,zF oM,O];simp only;rw[zF oM,zG oM];exact bD (by unfold dP;omega)
 have aq:=a0q a2;refine aV (Cj.sr (aA yP ?_));refine aH rfl (yU rfl rfl rfl rfl rfl (LX _ _ _ _) ?_);refine aA yP ?_;refine J.split 49 rfl (fun A=>?_) (fun A=>?_)
 rotate_left
 ·have ar:=a0q A;refine zO 2 49 50 true A ?_;refine zO 2 49 51 true A ?_;refine aA (DV A) ?_;refine aA yQ ?_;refine J.c0 (fun _=>?_);refine aI (aA yP ?_);refine aH rfl (yU rfl rfl rfl rfl rfl (LX _ _ _ _) ?_);refine aA yQ ?_;refine J.cd (fun a3=>?_) (fun a3=>?_)
  ·have au:=a0r a3;refine Cj.sr (aA yP ?_);refine aA (yZ rfl rfl rfl (b7m oM)) ?_;refine aA (LW rfl rfl a0Q BF) ?_;refine aA yQ ?_;refine J.ns (aN (aW (aY (zN ?_))));refine⟨?_,rfl,rfl⟩;refine zD (fun l=>aJ (str l)) ?_;unfold aU;rw[zF oM,zF oM,zF oM,zF oM,O];simp only;rw[zF oM,zF oM,zG oM];exact(zD (fun n:Int=>(dW n).data.toList) oM).trans (bD (c:=c+32) (by unfold dP;omega))
  have av:=a0q a3;refine Cj.kb (Cj.sr (aA yQ ?_));refine J.ns (aN (zN ?_));refine⟨?_,rfl,rfl⟩;refine zD (fun l=>aJ (str l)) ?_;unfold aU;rw[zF oM,zF oM,zF oM,zF oM,O];simp only;rw[zF oM,zF oM,zF oM]
 have aw:=a0r A;refine zU 2 49 true A (zK yP ?_);refine zU 2 49 true A (zK EY ?_);refine aA (DY A) ?_;refine aA yQ ?_;refine J.cd (fun G=>?_) (fun G=>?_)
 ·have ae:=bne_iff_ne.1 G;have ax:(c:Int)≠930:=by have h:=G;simpa using h
  refine Cj.ks (aQ rfl (fun ac=>?_) (fun ac=>aB (aP (aT G) ac)));refine Cj.sr (aA yP ?_);refine aA (yZ rfl rfl rfl (b7m oM)) ?_;refine aA (LW rfl rfl a0Q BF) ?_;refine aA yQ ?_;refine J.ns (aN (aW (aY (zN ?_))));refine⟨?_,rfl,rfl⟩;refine zD (fun l=>aJ (str l)) ?_;unfold aU;rw[zF oM,zF oM,zF oM,zF oM,O];simp only;rw[zF oM,zF oM,zG oM];exact(zD (fun n:Int=>(dW n).data.toList) oM).trans (bD (c:=c+32) (by unfold dP;omega))
 have ae:=EC G;have ay:¬(c:Int)≠930:=by have h:=G;simpa using h
 refine aI (aA yP ?_);refine aH rfl (yU rfl rfl rfl rfl rfl (LX _ _ _ _) ?_);refine aA yQ ?_;refine J.cd (fun a4=>?_) (fun a4=>?_)
 ·have az:=a0r a4;refine Cj.sr (aA yP ?_);refine aA (yZ rfl rfl rfl (b7m oM)) ?_;refine aA (LW rfl rfl a0Q BF) ?_;refine aA yQ ?_;refine J.ns (aN (aW (aY (zN ?_))));refine⟨?_,rfl,rfl⟩;refine zD (fun l=>aJ (str l)) ?_;unfold aU;rw[zF oM,zF oM,zF oM,zF oM,O];simp only;rw[zF oM,zF oM,zG oM];exact(zD (fun n:Int=>(dW n).data.toList) oM).trans (bD (c:=c+32) (by unfold dP;omega))
 have b0:=a0q a4;refine Cj.kb (Cj.sr (aA yQ ?_));refine J.ns (aN (zN ?_));refine⟨?_,rfl,rfl⟩;refine zD (fun l=>aJ (str l)) ?_;unfold aU;rw[zF oM,zF oM,zF oM,zF oM,O];simp only;rw[zF oM,zF oM,zF oM]
theorem b9i s c I:Pure aF 340 [str s,str [c]] I (i64 (cO s c)):=
 Pure.of_same (dD func340 dE rfl) fun w _=>by
  have h:=Tryz.stringslite_Index_one ⟨s.toArray⟩ c w;rw[IY]at h;exact h
theorem c5g s c (hs:s.length≤1000000000) I:Pure aF 317 [str s,str [c]] I (.tuple #[str (Ke.cutAt c s).1,str (Ke.cutAt c s).2.1,.bool (Ke.cutAt c s).2.2]):=by
 refine yT.ob func317 ?_;intro w0 _;refine Cj.sr (aA yQ ?_);refine aA yQ ?_;refine aA yQ ?_;refine J.AO (aI (aA yP ?_));refine aA yP ?_;refine aH rfl (yU rfl rfl rfl rfl rfl (b9i s c _) ?_);refine aA yQ ?_;refine J.yV (aA yP ?_);refine aA (MC rfl rfl rfl) ?_;refine J.cd (fun G=>?_) (fun G=>?_)
 ·have O:=BH G;obtain⟨n,Z,_,g3⟩:=(Ke.a4S c s).resolve_left (fun h=>by have:=BH G;omega);refine Cj.eqv 7 rfl (show _=i64 (n:Int) from zD i64 Z) ?_;refine aV (fP [] [] 12 kR ?_);refine fQ BQ (fun A=>?_);refine aO 0 rfl A yP ?_;refine aO 1 rfl A yP ?_;refine aO 2 rfl A (CY (p:=0) (q:=n) rfl rfl BF rfl ⟨_,rfl⟩ oM oM) ?_;refine JA.eqv 15 rfl (show _=str (s.take n) from(by rw[List.drop_zero])) ?_;refine aO 3 rfl A yP ?_;refine aO 4 rfl A yP ?_;refine aO 5 rfl A yP ?_;refine aO 6 rfl A (GK BF) ?_;refine aO 7 rfl A (yZ rfl rfl rfl (AA (by simp only[aS,aX];omega))) ?_;refine aO 8 rfl A (CY (p:=n+1) (q:=s.length) rfl rfl BF ⟨_,rfl⟩ rfl oM oM) ?_;refine JA.eqv 21 rfl (show _=str (s.drop (n+1)) from(by rw[List.take_length])) ?_;refine aO 9 rfl A yQ ?_;refine aO 10 rfl A yQ ?_;refine aO 11 rfl A yQ ?_;refine AL ?_;refine eU (Cj.rs (Ej.c3e rfl rfl rfl rfl rfl ?_));refine⟨?_,rfl,rfl⟩;rw[g3]
 have O:=BN G;have g:=(Ke.a4S c s).resolve_right (fun⟨n,h,_⟩=>by have:=BN G;omega);refine Cj.ks (Cj.sr (aA yP ?_));refine aA yQ ?_;refine aA yQ ?_;refine aA yQ ?_;refine J.ns (aN (Ej.c3e rfl rfl rfl rfl rfl ?_));refine⟨?_,rfl,rfl⟩;rw[g.2];rfl
theorem c6z s c (hs:s.length≤1000000000) I:Pure aF 291 [str s,str [c]] I (.tuple #[str (Ke.cutAt c s).1,str (Ke.cutAt c s).2.1,.bool (Ke.cutAt c s).2.2]):=by
 refine yT.ob func291 ?_;intro w0 _;refine Cj.sr (aA yQ ?_);refine aA yQ ?_;refine aA yQ ?_;refine J.yV (aA yP ?_);refine aA yP ?_;refine aH rfl (yU rfl rfl rfl rfl rfl (c5g s c hs _) ?_);refine aA AQ ?_;refine aA AQ ?_;refine aA AQ ?_;refine aA yQ ?_;refine aA yQ ?_;refine aA yQ ?_;refine J.ns (aN (Ej.c3e rfl rfl rfl rfl rfl ?_));exact rT
theorem b4h O rc I (a4:I O=some (yY 9 (Ke.b1b.map str))):yT aF 223 [.slice (some ⟨O,0,none⟩) 31 rc] I []
 (fun e I' H'=>∃tb,e= .returned (.map (some tb))∧H'=[(tb,BD (fun a:Int=>cZ .i32 a) (Ke.a1q dG) 207)]):=by
 refine yT.ob func223 ?_;intro w0 _;refine Cj.sr (aA yQ ?_);refine J.yV (aH rfl (CB rfl rfl rfl ?_));intro G _;refine aA yQ ?_;refine J.AO (aI (aA yP ?_));refine aA (AU AP) ?_;refine aA yP ?_;refine J.ns (bC (Cj.loop (ι:=Nat) (fun k=>k≤31) (fun k=>31-k) (fun k=>[(3,.map (some G)),(12,.slice (some ⟨O,0,none⟩) 31 rc),(13,.int .i64 ((31:Nat):Int)),(14,i64 (k:Int))]) (fun k=>_) (fun k=>[(G,BD (fun a:Int=>cZ .i32 a) (Ke.a1q (dU (dJ.take k))) (dU (dJ.take k)).length)]) 0 (bT _) rT rfl rfl ?_));intro k _;refine Cj.sr (aA BM ?_);refine J.nss (aQ rfl (fun A=>?_) (fun A=>?_))
 ·have a3:=BH A;have a5:k<31:=by have:=BH A;omega
  obtain⟨⟨a,b⟩,h⟩:∃p,dJ[k]?=some p:=⟨_,DX (show k<dJ.length from a5)⟩;obtain⟨ha,a6,a7⟩:=Ke.b8X _ (FB h);have a8:(Ke.b1b.map str)[k]?=some (str (a++32::b)):=by simp[Ke.b1b,h]
  refine Cj.ks (aV (bC (Cj.sr (aA (BG (off':=k) AP zL) ?_))));refine aA (EN BX (bQ a4) a8) ?_;refine aA yQ ?_;refine J.yV (aA yP ?_);refine aH rfl (yU rfl rfl rfl rfl rfl (c6z (a++32::b) 32 (by dsimp only at a6 a7;simp;omega) _) ?_);refine J.eqv 20 rfl (show _= .tuple #[str a,str b,.bool true] from(by rw[Ke.b0s ha])) ?_;refine aA yP ?_;refine aA AQ ?_;refine aA AQ ?_;refine aA AQ ?_;refine aA yQ ?_;refine aA yQ ?_;refine aA yQ ?_;refine J.yV (aA yP ?_);refine aH rfl (PV rfl rfl rfl rfl BF ?_);intro b3 _;refine J.ns (bC (Cj.loop (ι:=Nat×List Nat) (fun j=>j.1≤b.length∧Ke.runes b=j.2++Ke.runes (b.drop j.1)) (fun j=>b.length-j.1) (fun j=>[(3,.map (some G)),(6,str a),(12,.slice (some ⟨O,0,none⟩) 31 rc),(13,.int .i64 ((31:Nat):Int)),(14,i64 (k:Int)),(25,ptr b3 0)]) (fun j=>_) (fun j=>[(b3,.stringIter ⟨b.toArray⟩ j.1),(G,BD (fun a:Int=>cZ .i32 a) (Ke.a1q (dU (dJ.take k)++j.2.map (·,a))) (dU (dJ.take k)++j.2.map (·,a)).length)]) (0,[]) ⟨bT _,rfl⟩ rT rfl sI ?_));rintro⟨i,x⟩ ⟨hi,Z⟩;dsimp only at hi Z ⊢;rcases Nat.lt_or_ge i b.length with hp|hp
  ·have hw:=fU b hp;have a0:=Ke.fresh h (Ke.a6b Z hp);refine Cj.sr (aH rfl (a0a 0 rfl rfl rfl rfl rfl (by rw[size_mk];omega) bG ?_));refine aA AQ ?_;refine J.nss (aQ rfl (fun a1=>?_) (fun a1=>aB (aP (aT rfl) a1)));refine Cj.ks (bC (Cj.sr (aA AQ ?_)));refine aA yQ ?_;refine J.GL (aA yP ?_);refine aA yP ?_;refine aA yP ?_;refine aH rfl (FZ (kv:=fun a:Int=>cZ .i32 a) (a:=((aC ⟨b.toArray⟩ i).1:Int)) 1 (.inr rfl) rfl rfl rfl rfl rfl underlying267 (IK.int a0Q) rfl (aZ bG) ?_);rw[(Ke.b2G (s:=a) a0).1,(Ke.b2G (s:=a) a0).2];refine bV (dQ (eF (i+(aC ⟨b.toArray⟩ i).2,x++[(aC ⟨b.toArray⟩ i).1]) ⟨hw.2,Ke.b3w Z hp⟩ dO rT rfl (by simp only[dS,bZ,List.map_nil,fG])))

  refine Cj.sr (aH rfl (VK 0 rfl rfl rfl rfl rfl (by rw[size_mk];omega) ?_));refine aA AQ ?_;refine J.nss (aQ rfl (fun a2=>aB (aP (aT rfl) a2)) (fun a2=>?_));refine fZ (dA (Ej.JK (dZ (dQ (eU (aI (aA (yZ rfl rfl rfl (AA oM)) ?_)))))));refine aA yP ?_;refine bV (bU (dB (dI fE)) ?_);refine eF (k+1) oM oM rT rfl (by rw[Ke.b4d h,Ke.b6X Z oM])
 have a3:=BN A;refine Cj.xl (Cj.sr (aA yP ?_));refine aA yQ ?_;refine J.ns (aN ?_);obtain rfl:k=31:=oM;refine zN ?_;have he:dU (dJ.take 31)=dG:=by rw[List.take_of_length_le dE];exact Ke.b9g
 refine⟨G,rfl,?_⟩;rw[he];rfl
theorem c0Q:yY 9 (Ke.b1b.map str)=yY 9 [str [97,32,195,160,195,161,195,162,195,163,195,164,195,165,196,129,196,131,196,133,195,128,195,129,195,130,195,131,195,132,195,133,196,128,196,130,196,132],str [99,32,195,167,196,135,196,137,196,139,196,141,195,135,196,134,196,136,196,138,196,140],str [100,32,196,143,196,145,195,176,196,142,196,144,195,144],str [101,32,195,168,195,169,195,170,195,171,196,147,196,149,196,151,196,153,196,155,195,136,195,137,195,138,195,139,196,146,196,148,196,150,196,152,196,154],str [103,32,196,157,196,159,196,161,196,163,196,156,196,158,196,160,196,162],str [104,32,196,165,196,167,196,164,196,166],str [105,32,195,172,195,173,195,174,195,175,196,169,196,171,196,173,196,175,196,177,195,140,195,141,195,142,195,143,196,168,196,170,196,172,196,174,196,176],str [106,32,196,181,196,180],str [107,32,196,183,196,182],str [108,32,196,186,196,188,196,190,197,130,196,185,196,187,196,189,197,129],str [110,32,195,177,197,132,197,134,197,136,195,145,197,131,197,133,197,135],str [111,32,195,178,195,179,195,180,195,181,195,182,195,184,197,141,197,143,197,145,198,161,195,146,195,147,195,148,195,149,195,150,195,152,197,140,197,142,197,144,198,160],str [114,32,197,149,197,151,197,153,197,148,197,150,197,152],str [115,32,197,155,197,157,197,159,197,161,197,154,197,156,197,158,197,160],str [116,32,197,163,197,165,197,167,197,162,197,164,197,166],str [117,32,195,185,195,186,195,187,195,188,197,169,197,171,197,173,197,175,197,177,197,179,198,176,195,153,195,154,195,155,195,156,197,168,197,170,197,172,197,174,197,176,197,178,198,175],str [119,32,197,181,197,180],str [121,32,195,189,195,191,197,183,195,157,197,184,197,182],str [122,32,197,186,197,188,197,190,197,185,197,187,197,189],str [97,101,32,195,166,195,134],str [111,101,32,197,147,197,146],str [115,115,32,195,159],str [116,104,32,195,190,195,158],str [206,177,32,206,172,206,134],str [206,181,32,206,173,206,136],str [206,183,32,206,174,206,137],str [206,185,32,206,175,207,138,206,144,206,138,206,170],str [206,191,32,207,140,206,140],str [207,133,32,207,141,207,139,206,176,206,142,206,171],str [207,137,32,207,142,206,143],str [208,181,32,209,145,208,129]]:=kR
theorem b6c I:yT aF 173 [] I [] (fun e I' H'=>∃tb,e= .returned (.map (some tb))∧H'=[(tb,BD (fun a:Int=>cZ .i32 a) (Ke.a1q dG) 207)]):=by
 refine yT.ob func173 ?_;intro w0 _;refine Cj.sr (aA yQ ?_);refine J.yV (aH rfl (AZ AP zL JG (aG rfl (aG rfl (aG rfl (aG rfl (aG rfl (aG rfl (aG rfl (aG rfl (aG rfl (aG rfl (aG rfl (aG rfl (aG rfl (aG rfl (aG rfl (aG rfl (aG rfl (aG rfl (aG rfl (aG rfl (aG rfl (aG rfl (aG rfl (aG rfl (aG rfl (aG rfl (aG rfl (aG rfl (aG rfl (aG rfl (aG rfl dF))))))))))))))))))))))))))))))) ?_));intro b1 O;refine eX O (fun _ _ A=>?_);refine aH rfl (yS (H1:=[]) rfl rfl rfl rfl rfl (b4h b1 _ _ (by rw[c0Q];exact A)) ?_ (fun _ _ _ _ h=>by obtain⟨_,h,_⟩:=h;cases h) (fun _ _ h=>by obtain⟨_,h,_⟩:=h;cases h));intro _ _ _ G Z;have A:=G _ _ A;obtain⟨tb,h,rfl⟩:=Z;cases h;refine aA yQ ?_;refine J.ns (aN (zN ?_));exact⟨tb,rfl,rfl⟩
def MI (b:Nat) (l:List UInt8) (p:Bool) (g:Gs):HL:=(b,yY 271 [if p then ptr b 0 else .pointer none,gV l.length g])::gH 5 (EP l) g
theorem a7y b v I:yT aF 225 [ptr b 0] I [(b,yY 271 [.pointer none,v])] (fun e h H'=>e= .returned (.tuple #[])∧H'=[(b,yY 271 [ptr b 0,v])]):=by
 refine yT.ob func225 ?_;intro w0 _;refine Cj.sr (aA yP ?_);refine aA zW ?_;refine aA (qq2 (off':=0) QF a3l) ?_;refine aA (yX isAgg269 (yR.at 0 rfl)) ?_;refine aA (RD a7X) ?_;refine J.c1 (fun _=>?_);refine aI (aA yP ?_);refine aA yP ?_;refine aA (b3Q 1 rfl rfl a7X b0X kR (yR.at 0 rfl) sI) ?_;refine aA (b3X rfl rfl rfl func292 kR kR kR kR) ?_;refine aA (b0H rfl rfl b0X a7X kR (yR.at 0 rfl) kR) ?_;refine aA zW ?_;refine aA (qq2 (off':=0) QF a3l) ?_;refine aH rfl (zS 0 a3l (dK dL) bG ?_);refine bV (Ej.TK rfl rfl ?_);exact rT
theorem a8y b v I:yT aF 225 [ptr b 0] I [(b,yY 271 [ptr b 0,v])] (fun e h H'=>e= .returned (.tuple #[])∧H'=[(b,yY 271 [ptr b 0,v])]):=by
 refine yT.ob func225 ?_;intro w0 _;refine Cj.sr (aA yP ?_);refine aA zW ?_;refine aA (qq2 (off':=0) QF a3l) ?_;refine aA (yX isAgg269 (yR.at 0 rfl)) ?_;refine aA (RD a7X) ?_;refine J.c0 (fun _=>?_);refine Cj.sr (aA yP ?_);refine aA zW ?_;refine aA (qq2 (off':=0) QF a3l) ?_;refine aA (yX isAgg269 (yR.at 0 rfl)) ?_;refine aA yP ?_;refine aA (b7s rfl rfl rfl a7X kR) ?_;refine J.c0 (fun _=>?_);refine Cj.skip (Ej.TK rfl rfl ?_);exact rT
theorem a4p b (p:Bool) v I:yT aF 225 [ptr b 0] I [(b,yY 271 [if p then ptr b 0 else .pointer none,v])] (fun e h H'=>e= .returned (.tuple #[])∧H'=[(b,yY 271 [ptr b 0,v])]):=by
 cases p
 ·exact a7y b v I
 exact a8y b v I
theorem a5g b l c p g (hg:CU 0 1 l.length (EP l) g)(hl:l.length≤1000000000000) I:
 yT aF 216 [ptr b 0,u8 c] I (MI b l p g) (fun e I' H'=>e= .returned .nilIface∧∃A,CU 0 1 (l++[c]).length (EP (l++[c])) A∧H'=MI b (l++[c]) true A):=by
 refine yT.ob func216 ?_;intro w0 _;refine Cj.sr (aA yQ ?_);refine J.yV (aA yP ?_);refine bY bM ?_;refine aH rfl (yS (H1:=[_]) rfl rfl rfl rfl rfl (a4p b p _ _) ?_ (fun _ _ _ _ h=>by cases h.1) (fun _ _ h=>by cases h.1));intro _ _ _ _ G;obtain⟨O,rfl⟩:=G;cases O;refine J.yV (aA yP ?_);refine aA yP ?_;refine aA zW ?_;refine aA (qq2 (off':=1) QF JM) ?_;refine aA (yX PK (yR.at 0 rfl)) ?_;refine aA yP ?_;refine aH rfl (AZ ES RF tZ5 (aG rfl dF) ?_);intro _ _;refine aH rfl (MB 0 (bT _) (by':=0) [_,_] rfl rfl rfl rfl rfl ES (.inr ⟨_,ES⟩) kR RF tZ5 rfl hg rfl (eH (yR.at 0 rfl) rfl rfl rfl) oM ?_);intro g7 Z;refine aA zW ?_;refine aA (qq2 (off':=1) QF JM) ?_;refine aH rfl (EM 1 rfl rfl rfl rfl (KR _ _) (QO _ _) JM rfl rfl (bK (dK dL)) (aZ bG) ?_);refine J.yV (aA yQ ?_);refine J.ns (aN (bU (dB (dI Keeps.r)) ?_));refine zN ?_;exact⟨rfl,g7,by simpa[EP]using Z,by simp[MI,EP]⟩
theorem a8G b l s p g (hg:CU 0 1 l.length (EP l) g)(hl:l.length≤1000000000000)(hs:s.length≤1000000000000) I:
 yT aF 175 [ptr b 0,str s] I (MI b l p g) (fun e I' H'=>e= .returned (.tuple #[i64 s.length,.nilIface])∧∃A,CU 0 1 (l++s).length (EP (l++s)) A∧H'=MI b (l++s) true A):=by
 refine yT.ob func175 ?_;intro w0 _;refine Cj.sr (aA yQ ?_);refine aA yQ ?_;refine J.yV (aA yP ?_);refine bY bM ?_;refine aH rfl (yS (H1:=[_]) rfl rfl rfl rfl rfl (a4p b p _ _) ?_ (fun _ _ _ _ h=>by cases h.1) (fun _ _ h=>by cases h.1));intro _ _ _ _ G;obtain⟨O,rfl⟩:=G;cases O;refine J.yV (aA yP ?_);refine aA yP ?_;refine aA zW ?_;refine aA (qq2 (off':=1) QF JM) ?_;refine aA (yX PK (yR.at 0 rfl)) ?_;refine aA yP ?_;refine aH rfl (MB 0 (bT _) (by':=0) [_] rfl rfl rfl rfl rfl ES (.inl BF) kR RF tZ5 rfl hg rfl Src.str oM ?_);intro g6 Z;refine aA zW ?_;refine aA (qq2 (off':=1) QF JM) ?_;refine aH rfl (EM 0 rfl rfl rfl rfl (KR _ _) (QO _ _) JM rfl rfl (bK (dK dL)) bG ?_);refine J.yV (aA yP ?_);refine aA (GK BF) ?_;refine aA yQ ?_;refine aA yQ ?_;refine J.ns (aN (bU (dI Keeps.r) ?_));refine Ej.a0L rfl rfl rfl rfl ?_;exact⟨rfl,g6,by simpa[EP]using Z,by simp[MI,EP]⟩
theorem b6U b x I:yT aF 177 [ptr b 0] I [(b,yY 271 [x,.slice none 0 0])] (fun e A H'=>e= .returned (str [])∧∃y z,H'=[(b,yY 271 [y,z])]):=by
 refine yT.ob func177 ?_;intro w0 _;refine Cj.sr (aA yQ ?_);refine J.nss (fP [0] [] 12 kR ?_);refine fQ ⟨(fB 0 rfl fC),fD,(dY _)⟩ (fun BQ=>?_);refine aO 0 rfl BQ yP ?_;refine aO 1 rfl BQ zW ?_;refine aO 2 rfl BQ (qq2 (off':=1) QF JM) ?_;refine aO 3 rfl BQ (yX PK (gB 0 rfl)) ?_;refine aO 4 rfl BQ (a7J rfl rfl) ?_;refine aO 5 rfl BQ yP ?_;refine aO 6 rfl BQ zW ?_;refine aO 7 rfl BQ (qq2 (off':=1) QF JM) ?_;refine aO 8 rfl BQ (yX PK (gB 0 rfl)) ?_;refine aO 9 rfl BQ (AU ES) ?_;refine zT 10 rfl (zK (a3Y rfl rfl rfl) ?_);refine⟨⟨(dY _),(fB 0 rfl fC),fD⟩,?_⟩;refine fQ ⟨(fB 0 rfl fC),fD,(dY _)⟩ (fun h=>?_);refine aO 11 rfl h yQ ?_;refine AL ?_;refine eU (aN (bU (dI fE) ?_));refine zN ?_;exact⟨rfl,_,_,rfl⟩
theorem b4E b gb c x l sp (h0:l≠[])(G:l.length≤1000000000000)(A:c≠0) I:yT aF 177 [ptr b 0] I [(b,yY 271 [x,.slice (some ⟨gb,0,none⟩) l.length c]),(gb,yY 5 (EP l++sp))] (fun e O H'=>e= .returned (str l)∧∃y z,H'=[(b,yY 271 [y,z])]):=by
 refine yT.ob func177 ?_;intro w0 _;refine Cj.sr (aA yQ ?_);refine J.nss (fP [0] [] 12 kR ?_);refine fQ ⟨(fB 0 rfl fC),fD,(dY _)⟩ (fun BQ=>?_);refine aO 0 rfl BQ yP ?_;refine aO 1 rfl BQ zW ?_;refine aO 2 rfl BQ (qq2 (off':=1) QF JM) ?_;refine aO 3 rfl BQ (yX PK (gB 0 rfl)) ?_;refine aO 4 rfl BQ (b1n rfl rfl A) ?_;refine aO 5 rfl BQ yP ?_;refine aO 6 rfl BQ zW ?_;refine aO 7 rfl BQ (qq2 (off':=1) QF JM) ?_;refine aO 8 rfl BQ (yX PK (gB 0 rfl)) ?_;refine aO 9 rfl BQ (AU ES) ?_;refine zT 10 rfl (a7Q 1 l rfl rfl rfl rfl rfl underlying326 kR rfl h0 oM (aZ bG) ?_);refine⟨⟨(dY _),(fB 0 rfl fC),fD⟩,?_⟩;refine fQ ⟨(fB 0 rfl fC),fD,(dY _)⟩ (fun h=>?_);refine aO 11 rfl h yQ ?_;refine AL ?_;refine eU (aN (bU (dI (dB fE)) ?_));refine zN ?_;exact⟨rfl,_,_,rfl⟩
theorem a4T b l p g (hg:CU 0 1 l.length (EP l) g)(h0:l=[]→g=none)(Z:l.length≤1000000000000) I:yT aF 177 [ptr b 0] I (MI b l p g) (fun e I' H'=>e= .returned (str l)∧∃y z,H'=[(b,yY 271 [y,z])]):=by
 cases g with
 |none=>
  have:l=[]:=bW.1 hg.1;subst this;exact b6U b _ I
 |some q=>
  obtain⟨gb,c,sp⟩:=q;have A:l≠[]:=fun h=>by cases h0 h
  have G:=hg.2.1;have O:=hg.2.2;have:0<l.length:=List.length_pos_iff.2 A;exact b4E b gb c _ l sp A Z (by rw[G]at O;omega) I
theorem c5C b x I:yT aF 176 [ptr b 0] I [(b,yY 271 [x,.slice none 0 0])] (fun e h H'=>e= .returned (i64 0)∧H'=[(b,yY 271 [x,.slice none 0 0])]):=by
 refine yT.ob func176 ?_;intro w0 _;refine Cj.sr (aA yQ ?_);refine J.yV (aA yP ?_);refine aA zW ?_;refine aA (qq2 (off':=1) QF JM) ?_;refine aA (yX PK (yR.at 0 rfl)) ?_;refine aA (AU ES) ?_;refine aA yQ ?_;refine J.ns (aN (zN ?_));exact rT
theorem c2F b x p n c I:yT aF 176 [ptr b 0] I [(b,yY 271 [x,.slice p n c])] (fun e h H'=>e= .returned (i64 n)∧H'=[(b,yY 271 [x,.slice p n c])]):=by
 refine yT.ob func176 ?_;intro w0 _;refine Cj.sr (aA yQ ?_);refine J.yV (aA yP ?_);refine aA zW ?_;refine aA (qq2 (off':=1) QF JM) ?_;refine aA (yX PK (yR.at 0 rfl)) ?_;refine aA (AU ES) ?_;refine aA yQ ?_;refine J.ns (aN (zN ?_));exact rT
theorem c6i b x n g {sz xs}(hg:CU 0 sz n xs g) I:yT aF 176 [ptr b 0] I [(b,yY 271 [x,gV n g])] (fun e h H'=>e= .returned (i64 n)∧H'=[(b,yY 271 [x,gV n g])]):=by
 cases g with
 |none=>
  obtain rfl:n=0:=hg.1;exact c5C b x I
 |some q=>exact c2F b x _ n _ I
theorem c1O b x y I:yT aF 178 [ptr b 0] I [(b,yY 271 [x,y])] (fun e h H'=>e= .returned (.tuple #[])∧H'=[(b,yY 271 [.pointer none,.slice none 0 0])]):=by
 refine yT.ob func178 ?_;intro w0 _;refine Cj.sr (aA yP ?_);refine aA zW ?_;refine aA (qq2 (off':=0) QF a3l) ?_;refine aH rfl (zS 0 a3l (dK dL) bG ?_);refine J.GL (aA yP ?_);refine aA zW ?_;refine aA (qq2 (off':=1) QF JM) ?_;refine aH rfl (zS 0 JM (bK (dK dL)) bG ?_);refine bV (Ej.TK rfl rfl ?_);exact rT
end Go.Proofs.YtojdemmgkdokmaaGreatDoor
namespace Ke
theorem a2R c:(enc c).length≤4:=by unfold enc;split<;>(try split)<;>(try split)<;>simp
theorem QU:tab.all (fun p=>decide (p.2.length≤4))=true:=by decide +kernel
theorem a7h:∀{l:List (Nat×Bs)} {c:Nat} {s:Bs},l.lookup c=some s→∃p∈l,p.2=s
 |[],_,_,h=>by cases h
 |(a,b)::r,c,s,h=>by
  rw[dM]at h
  split at h
  ·cases h;exact⟨_,.head _,rfl⟩
  obtain⟨p,h1,h2⟩:=a7h h;exact⟨p,.tail _ h1,h2⟩
theorem a6F c:(char c).length≤4:=by
 unfold char
 split
 ·exact a2R c
 split
 ·exact a2R _
 split
 ·simp
 split
 ·simp
 split
 ·rename_i s hs
  obtain⟨p,h1,rfl⟩:=a7h hs;exact zB (fK.1 QU p h1)
 split
 ·exact a2R _
 split
 ·exact a2R _
 split
 ·exact a2R _
 simp
theorem b8e w:wf w []=if w=[]then[]else[w]:=rfl
theorem c7v{c}(h:char c≠[32]) w r:wf w (c::r)=wf (w++char c) r:=by
 show(if char c=[32]then _ else _)=_;rw[zF h]
theorem c6s{c}(h:char c=[32]){w}(A:w≠[]) r:wf w (c::r)=w::wf [] r:=by
 show(if char c=[32]then(if w=[]then _ else _)else _)=_;rw[zG h,zF A]
theorem c5p{c}(h:char c=[32]) r:wf [] (c::r)=wf [] r:=by
 show(if char c=[32]then(if ([]:Bs)=[]then _ else _)else _)=_;rw[zG h,zG rfl]
theorem drop_at{α:Type}{l:List α}{k x r}(h:l.drop k=x::r):l[k]?=some x∧l.drop (k+1)=r:=by
 have h1:=zD List.head? h;have h2:=zD List.tail h;rw[List.head?_drop]at h1;rw[List.tail_drop]at h2;exact⟨h1,h2⟩
structure LJ (s:Bs) (i k:Nat) (w:Bs):Prop where
  le:i≤s.length
  wl:w.length≤4*i
  kl:k≤(words s).length
  eq:(words s).drop k=wf w (runes (s.drop i))
theorem LJ.start s:LJ s 0 0 []:=⟨bT _,bT _,bT _,rfl⟩
theorem LJ.in{s i k w}(h:LJ s i k w)(A:i<s.length)(G:char (aC ⟨s.toArray⟩ i).1≠[32]):LJ s (i+(aC ⟨s.toArray⟩ i).2) k (w++char (aC ⟨s.toArray⟩ i).1):=by
 obtain⟨h1,h2⟩:=VD s A;refine⟨h2,?_,h.kl,by rw[h.eq,a3h A,c7v G]⟩;have:=a6F (aC ⟨s.toArray⟩ i).1;have:=h.wl;rw[bI];omega
theorem LJ.c7H{s i k}(h:LJ s i k [])(A:i<s.length)(G:char (aC ⟨s.toArray⟩ i).1=[32]):LJ s (i+(aC ⟨s.toArray⟩ i).2) k []:=by
 obtain⟨h1,h2⟩:=VD s A;exact⟨h2,sI,h.kl,by rw[h.eq,a3h A,c5p G]⟩
theorem LJ.out{s i k w}(h:LJ s i k w)(A:i<s.length)(Z:char (aC ⟨s.toArray⟩ i).1=[32])(hw:w≠[]):(words s)[k]?=some w∧LJ s (i+(aC ⟨s.toArray⟩ i).2) (k+1) []:=by
 obtain⟨h1,h2⟩:=VD s A;have G:=h.eq;rw[a3h A,c6s Z hw]at G;obtain⟨O,g2⟩:=drop_at G;exact⟨O,h2,sI,(bF.1 O).1,g2⟩
theorem LJ.last{s i k w}(h:LJ s i k w)(hi:¬i<s.length)(O:w≠[]):(words s)[k]?=some w∧k+1=(words s).length:=by
 have A:=h.eq;rw[a4y oM,b8e,zF O]at A;obtain⟨G,Z⟩:=drop_at A;have:=zD List.length Z;have:=(bF.1 G).1;simp at *;exact⟨G,oM⟩
theorem LJ.TK{s i k}(h:LJ s i k [])(G:¬i<s.length):k=(words s).length:=by
 have A:=h.eq;have:=h.kl;rw[a4y oM,b8e,zG rfl]at A;have:=zD List.length A;simp at this;omega
def total:List Bs→Nat
 |[]=>0
 |a::r=>a.length+total r
theorem a4X:∀(r:List Nat) (w:Bs),(wf w r).length≤r.length+1∧total (wf w r)≤w.length+4*r.length
 |[],w=>by
  unfold wf
  split
  ·exact⟨sI,by simp[total]⟩
  exact⟨sI,by simp[total]⟩
 |c::r,w=>by
  unfold wf;have h0:=a4X r []
  split
  ·split
   ·simp only[aS,aX]at *;omega
   simp only[aS,aX,total]at *;omega
  have h1:=a4X r (w++char c);have h2:=a6F c;simp only[aS,bI]at *;omega
theorem XB:∀l:List Bs,(join l).length≤total l+l.length
 |[]=>by simp[join]
 |[a]=>by simp[join,total]
 |a::b::r=>by
  have:=XB (b::r);simp only[join,total,bI,aS,aX]at *;omega
theorem TY s:(words s).length≤s.length+1∧(join (words s)).length≤5*s.length+1:=by
 have h1:=a4X (runes s) [];have h2:=XB (words s);have h3:=a1N s.length s;unfold words at *;unfold runes at *;simp only[aX]at h1;omega
theorem a0Y s:∀w∈words s,w.length≤4*s.length:=by
 have h:∀(l:List Bs),∀w∈l,w.length≤total l:=by
  intro l
  induction l with
  |nil=>intro w A;cases A
  |cons a r G=>
   intro w A;rcases dH.1 A with rfl|A
   ·simp[total]
   have:=G w A;simp only[total];omega
 intro w A;have h1:=(a4X (runes s) []).2;have h3:=a1N s.length s;have O:=h _ w A;unfold words runes at *;simp only[aX]at h1;omega
theorem b3c:∀l:List Bs,Go.Lib.join l [32]=join l
 |[]=>rfl
 |[a]=>Go.Lib.join_one a [32]
 |a::b::r=>by
  have h:=b3c (b::r);rw[Go.Lib.join_cons]at h ⊢;show a++fV [32] (b::r)=a++[32]++join (b::r);rw[←h];simp[fV]
def a2p:Bs:=[48,49,50,51,52,53,54,55,56,57]
theorem a7A c:a2p.contains c=digit c:=by
 have h:∀n<256,a2p.contains (gK n)=digit (gK n):=by decide +kernel
 have:=h c.toNat c.toNat_lt
 rwa [UInt8.ofNat_toNat]at this
theorem a3G{p c}:∀{l:Bs},c∈l→p c=false→c∈l.dropWhile p
 |[],h,_=>by cases h
 |d::r,h,hp=>by
  rw[eG]
  split
  ·rename_i hd
   rcases dH.1 h with rfl|h
   ·rw[hp]at hd;cases hd
   exact a3G h hp
  exact h
theorem b3v{p}:∀{l:Bs},(∀c∈l,p c=true)→l.dropWhile p=[]
 |[],_=>rfl
 |d::r,h=>by rw[List.dropWhile_cons_of_pos (h d (.head _))];exact b3v fun c A=>h c (.tail _ A)
theorem a5W s:(gI s a2p == [])=digits s:=by
 unfold gI Go.Lib.trimLeftS Go.Lib.trimRightS digits;cases hd:s.all digit with
 |true=>
  have h:∀c∈s.reverse,a2p.contains c=true:=fun c A=>by rw[a7A];exact fK.1 hd c (dR.1 A)
  rw[b3v h];rfl
 |false=>
  obtain⟨c,A,hn⟩:∃c∈s,digit c=false:=by
   have:=List.all_eq_false.1 hd;obtain⟨c,A,hn⟩:=this;exact⟨c,A,by simpa using hn⟩
  have h1:a2p.contains c=false:=by rw[a7A];exact hn
  have h2:=a3G (p:=(a2p.contains ·)) (dR.2 (a3G (p:=(a2p.contains ·)) (dR.2 A) h1)) h1;rw[beq_eq_false_iff_ne];intro G;rw[G]at h2;cases h2
theorem dropLast_take(w:Bs):w.take (w.length-1)=w.dropLast:=by rw[List.dropLast_eq_take]
theorem a9P w:(strip w).length≤w.length+1:=by
 unfold strip;have h:∀(l:Bs) (p:UInt8→Bool),(l.dropWhile p).length≤l.length:=by
  intro l p
  induction l with
  |nil=>simp
  |cons a r A=>rw[eG];split<;>simp only[aS]<;>omega
 have:=h w.dropLast (· == 48);rw[bI,List.length_drop];rw[List.length_dropLast]at this;omega
theorem b2X w:(OB w).length≤w.length+3:=by
 have h:=a9P w;unfold OB
 split
 ·unfold number;simp only[bI,aS,aX];omega
 omega
theorem a6p s:(join ((words s).map OB)).length≤8*s.length+4:=by
 have h1:=a4X (runes s) [];have h3:=a1N s.length s;have h2:=XB ((words s).map OB);have h:∀l:List Bs,total (l.map OB)≤total l+3*l.length:=by
  intro l
  induction l with
  |nil=>simp[total]
  |cons a r A=>
   have:=b2X a;simp only[bZ,total,aS];omega
 have G:=h (words s);rw[dV]at h2;unfold words runes at *;simp only[aX]at h1;omega
end Ke
namespace Go.Proofs.YtojdemmgkdokmaaGreatDoor
open Go Go.Sx
theorem b5s b l p g (hg:CU 0 1 l.length (EP l) g) I:yT aF 176 [ptr b 0] I (MI b l p g) (fun e h H'=>e= .returned (i64 l.length)∧H'=MI b l p g):=
 (yT.frame (gH 5 (EP l) g) (c6i b _ l.length g hg I)).mono fun _ _ _ _ ⟨H1,h1,h2,h3⟩=>⟨h2,by rw[h1,h3];rfl⟩
theorem a9H b x y R I:yT aF 178 [ptr b 0] I ((b,yY 271 [x,y])::R) (fun e h H'=>e= .returned (.tuple #[])∧H'=MI b [] false none):=
 (yT.frame R (c1O b x y I)).drop fun _ _ _ ⟨H1,h1,h2,h3⟩=>⟨_,by rw[h1,h3];exact List.sublist_append_left _ _,h2,rfl⟩
structure WSt where
  i:Nat
  w:List UInt8
  p:Bool
  g:Gs
  k:Nat
  I:Heap
  H:HL
theorem a5d sb s (hs:s.length≤1000000000) I (A:I sb=some (yY 9 [str s])):Gen aF 172 [] [ptr sb 0] I ((Ke.words s).map fun w=>[str w]):=by
 refine⟨dD gJ dE rfl,fun l Y Z a0 al H ac=>?_⟩;refine yT.ob gJ ?_;intro w0 _;refine Cj.sr (aH rfl (FU rfl rfl rfl rfl rfl (b6c _) ?_ (fun _ _ _ _ ⟨_,h,_⟩=>by cases h) (fun _ _ ⟨_,h,_⟩=>by cases h)));intro _ I3 _ ae ax ay;have A:=ae _ _ A;obtain⟨tb,h,rfl⟩:=ay;cases h;have ac:=a0 _ _ _ _ ae ac;refine eX (ax _ (.head _)) (fun _ af O=>?_);have A:=af _ _ A;have ac:=a0 _ _ _ _ af ac;refine aA yQ ?_;refine J.yV (aH rfl (BP Tryz.zeroValue271 ?_));intro b7 _;refine J.AO (aI (aA (yX BX (bQ A)) ?_));refine aH rfl (PV rfl rfl rfl rfl BF ?_);intro b8 _;refine J.ns (bC (Cj.loop (ι:=WSt) (fun j=>Ke.LJ s j.i j.k j.w∧CU 0 1 j.w.length (EP j.w) j.g∧(Tab j.I tb∧j.I sb=some (yY 9 [str s]))∧Y j.k j.I j.H) (fun j=>s.length-j.i) (fun j=>[(0,.func (.yield l) #[] #[]),(3,.map (some tb)),(4,ptr b7 0),(10,ptr b8 0)]) (fun j=>j.I) (fun j=>(b8,.stringIter ⟨s.toArray⟩ j.i)::(MI b7 j.w j.p j.g++j.H)) ⟨0,[],false,none,0,_,H⟩ ⟨Ke.LJ.start s,⟨rfl,rfl⟩,⟨O,A⟩,ac⟩ rT rfl rfl ?_));rintro⟨i,w,p,g,k,I,H⟩ ⟨hw,hg,⟨O,A⟩,hY⟩;dsimp only at hw hg O A hY ⊢;have b2:=hw.wl;have b3:=hw.le;rcases Nat.lt_or_ge i s.length with hp|hp
 ·have hd:=fU s hp;have az:=Ke.decode_le s i;refine Cj.sr (aH rfl (a0a 0 rfl rfl rfl rfl rfl (by rw[size_mk];omega) bG ?_));refine aA AQ ?_;refine J.nss (aQ rfl (fun am=>?_) (fun am=>aB (aP (aT rfl) am)));refine Cj.ks (bC (Cj.sr (aA AQ ?_)));refine aA yQ ?_;refine J.yV (aA yP ?_);refine aA yP ?_;refine aH rfl (yU rfl rfl rfl rfl rfl (c4Y _ tb az _ O) ?_);refine aA yQ ?_;refine J.AO (aI (aA yP ?_));refine aA (LH rfl rfl rfl) ?_;refine J.cd (fun a1=>?_) (fun a1=>?_)
  ·have aj:=bne_iff_ne.1 a1;have hc:aU (aC ⟨s.toArray⟩ i).1≠[32]:=bne_iff_ne.1 a1;refine Cj.sr (aA yP ?_);refine bP (H':=MI _ _ _ _++(_::_)) aK ?_;refine aH rfl (yS (H1:=MI _ _ _ _) (R:=_::_) rfl rfl rfl rfl rfl (a8G _ w (aU (aC ⟨s.toArray⟩ i).1) p g hg oM (by have:=Ke.a6F (aC ⟨s.toArray⟩ i).1;omega) _) ?_ (fun _ _ _ _ h=>by cases h.1) (fun _ _ h=>by cases h.1));intro _ _ _ a5 ao;have A:=a5 _ _ A;have O:=O.mono a5;obtain⟨h,g2,b0,rfl⟩:=ao;cases h;have hY:=a0 _ _ _ _ a5 hY;refine bP (H':=_::(_++_)) aK.symm ?_;refine J.ns (fZ (dA (dZ (eF ⟨i+(aC ⟨s.toArray⟩ i).2,w++aU (aC ⟨s.toArray⟩ i).1,true,g2,k,_,H⟩ ⟨hw.in hp hc,b0,⟨O,A⟩,hY⟩ dO rT rfl rfl))))
  have aj:=EC a1;have hc:aU (aC ⟨s.toArray⟩ i).1=[32]:=by have h:=a1;simpa using h
  refine Cj.ks (aV (Cj.sr (bP (H':=MI _ _ _ _++(_::_)) aK ?_)));refine aH rfl (yS (H1:=MI _ _ _ _) (R:=_::_) rfl rfl rfl rfl rfl (b5s _ w p g hg _) ?_ (fun _ _ _ _ h=>by cases h.1) (fun _ _ h=>by cases h.1));intro _ _ _ a6 ap;have A:=a6 _ _ A;have O:=O.mono a6;obtain⟨h,rfl⟩:=ap;cases h;have hY:=a0 _ _ _ _ a6 hY;refine bP (H':=_::(_++_)) aK.symm ?_;refine aA (KO rfl rfl rfl) ?_;refine aA yP ?_;refine J.split 23 rfl (fun G=>?_) (fun G=>?_)
  rotate_left
  ·obtain rfl:w=[]:=bW.1 (by have:=BN G;omega);refine zO 2 23 24 true G ?_;refine zO 2 23 25 true G ?_;refine zO 2 23 26 true G ?_;refine zO 2 23 27 true G ?_;refine aA (DV G) ?_;refine J.c0 (fun _=>?_);refine Cj.ks (aI (bP (H':=MI _ _ _ _++(_::_)) aK ?_));refine aH rfl (yS (H1:=MI _ _ _ _) (R:=_::_) rfl rfl rfl rfl rfl (a9H _ _ _ _ _) ?_ (fun _ _ _ _ h=>by cases h.1) (fun _ _ h=>by cases h.1));intro _ _ _ a7 aq;have A:=a7 _ _ A;have O:=O.mono a7;obtain⟨h,rfl⟩:=aq;cases h;have hY:=a0 _ _ _ _ a7 hY;refine bP (H':=_::(_++_)) aK.symm ?_;refine bV (dQ (eF ⟨i+(aC ⟨s.toArray⟩ i).2,[],false,none,k,_,H⟩ ⟨hw.c7H hp hc,⟨rfl,rfl⟩,⟨O,A⟩,hY⟩ dO rT rfl rfl))

  have a2:w≠[]:=fun h=>by have:=BH G;rw[h]at this;simp at this
  refine zU 2 23 true G (zK yP ?_);refine bP (H':=MI _ _ _ _++(_::_)) aK ?_;refine J.QD 2 23 true _ rfl rfl rfl G (yS (H1:=MI _ _ _ _) (R:=_::_) rfl rfl rfl rfl rfl (a4T _ w p g hg (fun h=>absurd h a2) oM _) ?_ (fun _ _ _ _ h=>by cases h.1) (fun _ _ h=>by cases h.1));intro _ _ _ a8 ar;have A:=a8 _ _ A;have O:=O.mono a8;obtain⟨h,y0,z0,rfl⟩:=ar;cases h;have hY:=a0 _ _ _ _ a8 hY;refine bP (H':=_::(_++_)) aK.symm ?_;refine J.c6k [_,_] 2 23 true _ rfl rfl rfl G rfl rfl rfl rfl rfl (al k [str w] (by rw[fH,(hw.out hp hc a2).1];rfl) _ H hY) ?_ (fun _ _ _ h=>by rcases h with⟨h,_⟩|⟨h,_⟩<;>cases h) (fun _ _ h=>by rcases h with⟨h,_⟩|⟨h,_⟩<;>cases h);intro v3 I3 H3 a3 ag;have A:=a3 _ _ A;have O:=O.mono a3;obtain⟨_,h3,an⟩:∃t:Bool,v3= .bool t∧((t=true∧Y (k+1) I3 H3)∨(t=false∧Z I3 H3)):=by
   rcases ag with⟨h,h2⟩|⟨h,h2⟩
   ·cases h;exact⟨true,rfl,.inl ⟨rfl,h2⟩⟩
   cases h;exact⟨false,rfl,.inr ⟨rfl,h2⟩⟩
  subst h3;refine zU 2 23 true G (zK (ER rfl rfl) ?_);refine aA (DY G) ?_;refine J.cd (fun ad=>?_) (fun ad=>?_)
  ·have b1:Z I3 H3:=by
    rcases an with⟨rfl,_⟩|⟨_,h⟩
    ·exact aB ad
    exact h
   refine Cj.rs (aW (Ej.OX (aW (aY (bU (H':=H3) (bJ _ (bJ _ (fJ _))) ?_)))));exact Ej.b2J rfl rfl ⟨rfl,.inr b1⟩
  have ah:Y (k+1) I3 H3:=by
   rcases an with⟨_,h⟩|⟨rfl,_⟩
   ·exact h
   exact aB ad
  refine Cj.ks (aI (bP (H':=[_]++(_::_)) aK ?_));refine aH rfl (yS (H1:=[_]) (R:=_::_) rfl rfl rfl rfl rfl (a9H _ _ _ _ _) ?_ (fun _ _ _ _ h=>by cases h.1) (fun _ _ h=>by cases h.1));intro _ _ _ a9 au;have A:=a9 _ _ A;have O:=O.mono a9;obtain⟨h,rfl⟩:=au;cases h;have ah:=a0 _ _ _ _ a9 ah;refine bP (H':=_::(_++_)) aK.symm ?_;refine bV (dQ (eF ⟨i+(aC ⟨s.toArray⟩ i).2,[],false,none,k+1,_,H3⟩ ⟨(hw.out hp hc a2).2,⟨rfl,rfl⟩,⟨O,A⟩,ah⟩ dO rT rfl rfl))
 refine Cj.sr (aH rfl (VK 0 rfl rfl rfl rfl rfl (by rw[size_mk];omega) ?_));refine aA AQ ?_;refine J.nss (aQ rfl (fun ai=>aB (aP (aT rfl) ai)) (fun ai=>?_));refine Cj.xl (Cj.sr (bP (H':=MI _ _ _ _++(_::_)) aK ?_));refine aH rfl (yS (H1:=MI _ _ _ _) (R:=_::_) rfl rfl rfl rfl rfl (b5s _ w p g hg _) ?_ (fun _ _ _ _ h=>by cases h.1) (fun _ _ h=>by cases h.1));intro _ _ _ aa av;have A:=aa _ _ A;have O:=O.mono aa;obtain⟨h,rfl⟩:=av;cases h;have hY:=a0 _ _ _ _ aa hY;refine bP (H':=_::(_++_)) aK.symm ?_;refine aA (KO rfl rfl rfl) ?_;refine J.cd (fun a4=>?_) (fun a4=>?_)
 ·have ak:=BH a4;have a2:w≠[]:=fun h=>by have:=BH a4;rw[h]at this;simp at this
  refine aI (aA yP ?_);refine bP (H':=MI _ _ _ _++(_::_)) aK ?_;refine aH rfl (yS (H1:=MI _ _ _ _) (R:=_::_) rfl rfl rfl rfl rfl (a4T _ w p g hg (fun h=>absurd h a2) oM _) ?_ (fun _ _ _ _ h=>by cases h.1) (fun _ _ h=>by cases h.1));intro _ _ _ ab aw;have A:=ab _ _ A;have O:=O.mono ab;obtain⟨h,y0,z0,rfl⟩:=aw;cases h;have hY:=a0 _ _ _ _ ab hY;refine bP (H':=_::(_++_)) aK.symm ?_;refine J.yield [_,_] rfl rfl rfl rfl rfl rfl (al k [str w] (by rw[fH,(hw.last oM a2).1];rfl) _ H hY) ?_ (fun _ _ _ h=>by rcases h with⟨h,_⟩|⟨h,_⟩<;>cases h) (fun _ _ h=>by rcases h with⟨h,_⟩|⟨h,_⟩<;>cases h);intro v3 I3 H3 a3 ag;have A:=a3 _ _ A;have O:=O.mono a3;refine bV (bU (H':=H3) (bJ _ (bJ _ (fJ _))) ?_);refine Ej.TK rfl rfl ⟨rfl,?_⟩;rcases ag with⟨_,h2⟩|⟨_,h2⟩
  ·refine .inl ?_;rw[dV,←(hw.last oM a2).2];exact h2
  exact .inr h2
 have ak:=BN a4;obtain rfl:w=[]:=bW.1 (by have:=BN a4;omega);refine Cj.skip (bU (H':=H) (bJ _ (List.sublist_append_right _ _)) ?_);refine Ej.TK rfl rfl ⟨rfl,.inl ?_⟩;rw[dV,←hw.TK oM];exact hY
