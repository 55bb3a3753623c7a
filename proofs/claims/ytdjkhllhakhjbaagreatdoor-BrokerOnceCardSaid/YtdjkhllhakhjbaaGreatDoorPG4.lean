/-
  Own texts on the laws of the seat, joined: the logic, and contracts of functions. Conditions: none.
-/
import Derived.Test.YtdjkhllhakhjbaaGreatDoorNmG
import Derived.Test.YtdjkhllhakhjbaaGreatDoorPG3
import Derived.Lib.Bytealg
import Derived.Lib.Join
import Derived.Lib.SlTrimSet
set_option linter.all false
set_option maxRecDepth 100000
set_option maxHeartbeats 40000000
open Go.Sx.J renaming z -> aA,op -> aH,perm -> bP,nil -> bV,pull -> bY,persist -> eX
open Bool renaming noConfusion -> aB,false_eq_true -> fA
open Go.Utf8 renaming decode -> aC,encode -> dW
open Go.Proofs.Tryz renaming prog -> aF,zeroCells368 -> fF,func128 -> gJ
open Go.Sx.IC renaming one -> aG,none -> dF
open Go.Sx.Cj renaming region -> aI,ret -> aN,cond -> aQ,seq -> aV,block -> bC,JD -> fP,exit -> fZ
open Go.Ending renaming returned -> aJ
open List renaming perm_middle -> aK,length_cons -> aS,length_nil -> aX,getElem?_eq_some_iff -> bF,length_append -> bI,length_eq_zero_iff -> bW,map_cons -> bZ,mem_cons -> dH,lookup_cons -> dM,cons_append -> dN,mem_reverse -> dR,map_append -> dS,length_map -> dV,dropWhile_cons -> eG,append_assoc -> fG,getElem?_map -> fH,all_eq_true -> fK
open Go.Sx.JA renaming tk -> aO,fix -> fQ
open Eq renaming trans -> aP,symm -> aT
open Ke renaming char -> aU,b5t -> bD,tab -> dG,rows -> dJ,okc -> dP,MJ -> dU,SV -> fU,rep -> gG
open Go.Sx.Ej renaming OY -> aW,KU -> aY,keep -> bU,JE -> dA,FM -> dQ,JM -> dZ,round -> eF,rounds -> eP,seq -> eU,persist -> fO
open Go.Sx.DZ renaming s -> aZ,z -> bG
open Go.Sx.Pull renaming s -> bH,z -> bM
open List.Sublist renaming cons -> bJ,refl -> fJ
open Go.Sx.EW renaming s -> bK,c -> dK,z -> dL
open Go.Sx.yR renaming PL -> bQ,ZU -> gB
open Nat renaming zero_le -> bT
open Go.Lib renaming indexByte -> cO,joinTail -> fV,trimS -> gI
open Go.Value renaming int -> cZ
open Go.Sx.Keeps renaming d -> dB,k -> dI,n -> fE
open Go.Sx.Enters renaming of -> dD
open Go.Sx.Rj renaming succ -> dX
open Go.Sx.Le renaming refl -> dY
open Go.Sx.Src renaming slice -> eH
open Go.Sx renaming str -> eY
open Go.Sx.HSub renaming c -> fB,n -> fC
open Go.Sx.CSub renaming n -> fD
open UInt8 renaming toNat_inj -> fM,ofNat -> gK
namespace Go.Proofs.YtdjkhllhakhjbaaGreatDoor
open _root_.Go.Proofs.Tryz
open Go Go.Sx
theorem _root_.Go.Sx.DZ.tr{H H'}{i b T:Nat}{f tr v}(h:DZ H i (b,yZ T (tab f v)) H'):DZ H i (b,.cells ((tab f tr).set 256 v).toArray T) H':=by rw[b8j];exact h
theorem _root_.Go.Sx.DZ.tb{H H'}{i b T k:Nat}{f:Nat→Value}{tr v:Value}(A:k<256)(h:DZ H i (b,yZ T (tab (fun j=>if j=k then v else f j) tr)) H'):DZ H i (b,.cells ((tab f tr).set k v).toArray T) H':=by rw[c2h _ _ _ A];exact h
def a1X (olds:List (List UInt8)) (r:Rp.Tb):Prop:=∀(rb:Nat) (a0 a1 a2 a3 osl:Value) (I:Heap),LD 9 I olds osl→yS aF 233 [ptr rb 0] I [(rb,yZ 281 [a0,a1,a2,a3,osl])]
 (fun e I' H'=>∃xb,e= .returned (.iface 369 (ptr xb 0))∧BSG r I' xb∧H'=[(rb,yZ 281 [a0,a1,a2,a3,osl])])
theorem BSG.two{a b x y}(A:b≠a)(hx:x.length≤2)(hy:y.length≤2){I N O Q tr}(h:I N=some (yZ 368 (tab (fun j=>if j=a.toNat then Q else if j=b.toNat then O else .slice none 0 0) tr)))(h1:a4w I y O)(h2:a4w I x Q)(h3:LD 9 I [[b],[a]] tr):BSG (Rp.two a x b y) I N:=by
 refine⟨_,tr,[b,a],h,h3,by simp[A],fun c=>?_,sI,fun c z hz=>?_,fun c=>?_⟩
 ·unfold Rp.two
  by_cases ha:c=a
  ·simp[ha]
  by_cases hb:c=b
  ·simp[hb,A]
  simp[ha,hb]
 ·unfold Rp.two at hz
  split at hz
  ·cases hz;exact hx
  split at hz
  ·cases hz;exact hy
  cases hz
 unfold Rp.two
 by_cases ha:c=a
 ·subst ha;exact .inr ⟨x,zG rfl,by rw[zG rfl];exact h2⟩
 have G:¬c.toNat=a.toNat:=fun e=>ha (fM.1 e)
 by_cases hb:c=b
 ·subst hb;exact .inr ⟨y,by rw[zF ha,zG rfl],by rw[zF G,zG rfl];exact h1⟩
 have Z:¬c.toNat=b.toNat:=fun e=>hb (fM.1 e);exact .inl ⟨by rw[zF ha,zF hb],by rw[zF G,zF Z]⟩
theorem b3N A T off cs x (G:cs[off]?=some (.int .u32 x)) I:yS aF 231 [ptr A off] I [(A,yZ T cs)] (fun e N H'=>e= .returned (.bool (x != 0))∧H'=[(A,yZ T cs)]):=
 yS.c3E (dD func231 dE rfl) G fun w h=>Sync.b6P ⟨A,off,none⟩ x w h
theorem c4a A T d G r o I:yS aF 275 [ptr A 1] I [(A,yZ T [d,.int .i32 0,G,r,o])] (fun e O H'=>e= .returned (.tuple #[])∧H'=[(A,yZ T [d,.int .i32 1,G,r,o])]):=
 yS.a6t (off:=1) (dD func275 dE rfl) rfl fun w h N=>Sync.lock_free ⟨A,1,none⟩ w h N
theorem b6Y A T d G r o I:UZ aF 276 [ptr A 1] .returning I [(A,yZ T [d,.int .i32 1,G,r,o])] (fun N I' H'=>N= .returning∧H'=[(A,yZ T [d,.int .i32 0,G,r,o])]):=
 UZ.a6t (off:=1) (v:= .tuple #[]) (dD func276 dE rfl) rfl fun w h O=>(Sync.unlock_deferred ⟨A,1,none⟩ .returning w h O).mono fun _ _ _ ⟨Q,Z,g3⟩=>⟨Q,Z,.inl g3⟩
theorem b9p A T x m G r o I:UZ aF 277 [ptr A 0,.bool true] .returning I [(A,yZ T [x,m,G,r,o])] (fun N I' H'=>N= .returning∧H'=[(A,yZ T [.int .u32 1,m,G,r,o])]):=
 UZ.a6t (off:=0) (v:= .tuple #[]) (dD func277 dE rfl) rfl fun w h O=>(Sync.store_deferred ⟨A,0,none⟩ x .returning w h O).mono fun _ _ _ ⟨Q,Z,g3⟩=>⟨Q,Z,.inr g3⟩
theorem a7O p q r z ob Z I:yS aF 119 [.slice (some ⟨ob,0,none⟩) 4 Z] I [(ob,yZ 9 ([p,q,r,z].map str))]
 (fun e I' H'=>∃G h,e= .returned (ptr G 0)∧H'=[(G,yZ 281 [.int .u32 0,.int .i32 0,.int .u32 0,.nilIface,h])]∧LD 9 I' [p,q,r,z] h):=by
 refine yS.ob func119 ?_;intro w0 _;refine Cj.sr (aA yQ ?_);refine J.zX (aI (aA yP ?_));refine aA (zZ AO) ?_;refine aA (a0M rfl rfl rfl dE) ?_;refine aA DW ?_;refine J.c0 (fun _=>?_);refine Cj.ks (Cj.sr (aA yP ?_));refine aH rfl (BI (by':=15) (n:=0) (g:=none) (xs:=[]) [_] rfl rfl rfl rfl rfl AO (.inr ⟨_,AO⟩) kR zS JY rfl rT rfl (eH (yR.at 0 rfl) rfl rfl rfl) oM ?_);intro _ N;refine aA (BD (pl:= #[(0,3),(3,1),(4,1)]) rfl rfl zeroValue281 rfl a4H (fun w=>by simp[KR,sizeOf277,sizeOf279]) (KP.part rfl (NH _ _) rfl (bK (bK (bK (bK (dK dL))))) KP.none)) ?_;refine aH rfl (BG ?_);intro b3 _;refine aA yQ ?_;refine J.ns (aN ?_);obtain⟨gb,gc,O,rfl,Q⟩:=N.some dE;refine Ej.pull (bH (bH bM)) ?_;refine fO Q (fun _ _ A=>?_);refine bU (dI (dB fE)) ?_;refine zM ?_;exact⟨b3,_,rfl,rfl,gb,gc,O,rfl,A⟩
def a7x (rb:Nat) (d m sm r o:Value):HL:=[(rb,yZ 281 [d,m,sm,r,o])]
def c1o (r:Rp.Tb) (I:Heap) (rb:Nat) (d m:Value) (H:HL):Prop:=∃xb,BSG r I xb∧H=a7x rb d m (.int .u32 0) (.iface 369 (ptr xb 0)) (.slice none 0 0)
theorem b2j{A r}(Z:a1X A r) N d m G I (ho:LD 9 I A G):yS aF 173 [ptr N 0] I (a7x N d m (.int .u32 0) .nilIface G)
 (fun e I' H'=>e= .returned (.tuple #[])∧c1o r I' N d m H'):=by
 refine yS.ob func173 ?_;intro w0 _;refine Cj.sr (aA yP ?_);refine aA yP ?_;refine bY bM ?_;refine aH rfl (yT (H1:=[_]) rfl rfl rfl rfl rfl (Z N _ _ _ _ G _ ho) ?_ (fun _ _ _ _ ⟨_,h,_⟩=>by cases h) (fun _ _ ⟨_,h,_⟩=>by cases h));intro _ _ _ _ O;obtain⟨xb,h,Q,rfl⟩:=O;cases h;refine aA zQ ?_;refine aA (qq2 (off':=3) a4H sizeOf279) ?_;refine aH rfl (AB 0 sizeOf279 (bK (bK (bK (dK dL)))) bG ?_);refine J.GI (aA yP ?_);refine aA zQ ?_;refine aA (qq2 (off':=4) a4H KR) ?_;refine aH rfl (AB 0 KR (bK (bK (bK (bK (dK dL))))) bG ?_);refine bV (Ej.RY rfl rfl ?_);exact⟨rfl,xb,Q,rfl⟩
theorem b8T{O r}(hB:a1X O r) A Q I (G:LD 9 I O Q):yS aF 232 [ptr A 0,.func (.func 173) #[ptr A 0] #[]] I (a7x A (.int .u32 0) (.int .i32 0) (.int .u32 0) .nilIface Q)
 (fun e I' H'=>e= .returned (.tuple #[])∧c1o r I' A (.int .u32 1) (.int .i32 0) H'):=by
 refine yS.b1Q func232 rfl dE (Nat.le_of_ble_eq_true rfl) ?_;intro w0 _;refine Cj.sr (aA yP ?_);refine aA zQ ?_;refine aA (qq2 (off':=1) a7t sizeOf275) ?_;refine bY bM ?_;refine aH rfl (yT (H1:=[_]) rfl rfl rfl rfl rfl (c4a A 281 _ _ _ _ _) ?_ (fun _ _ _ _ h=>by cases h.1) (fun _ _ h=>by cases h.1));intro _ _ _ a1 a4;have G:=G.mono a1;obtain⟨h,rfl⟩:=a4;cases h;refine J.yX (aA yP ?_);refine aA zQ ?_;refine aA (qq2 (off':=1) a7t sizeOf275) ?_;refine J.defer rfl rfl rfl rfl rfl ?_;refine J.yX (aA yP ?_);refine aA zQ ?_;refine aA (qq2 (off':=0) a7t sizeOf271) ?_;refine bY bM ?_;refine aH rfl (yT (H1:=[_]) rfl rfl rfl rfl rfl (b3N A 281 0 _ 0 rfl _) ?_ (fun _ _ _ _ h=>by cases h.1) (fun _ _ h=>by cases h.1));intro _ _ _ N a2;have G:=G.mono N;obtain⟨h,rfl⟩:=a2;cases h;refine aA (ER rfl rfl) ?_;refine J.ns (aQ rfl (fun Z=>?_) (fun Z=>aB (aP (aT (zD not rfl)) Z)));refine Cj.sr (aA yP ?_);refine aA zQ ?_;refine aA (qq2 (off':=0) a7t sizeOf271) ?_;refine J.defer rfl rfl rfl rfl rfl ?_;refine J.GI (aA yP ?_);refine bY bM ?_;refine aH rfl (yT (H1:=[_]) rfl rfl rfl rfl rfl (b2j hB A _ _ Q _ G) ?_ (fun _ _ _ _ h=>by cases h.1) (fun _ _ h=>by cases h.1));intro _ _ _ a0 a3;have G:=G.mono a0;obtain⟨h,xb,a5,rfl⟩:=a3;cases h;refine bV (Ej.c4u (H1:=[_]) (R1:=[]) rfl (b9p A 281 _ _ _ _ _ _) (fun _=>b6Y A 281 _ _ _ _ _) (fun _ N=>a4e.none rfl ?_));exact⟨rfl,xb,a5.mono N,rfl⟩
theorem c5f{G r}(hB:a1X G r) A N I (O:LD 9 I G N):yS aF 172 [ptr A 0,.func (.func 173) #[ptr A 0] #[]] I (a7x A (.int .u32 0) (.int .i32 0) (.int .u32 0) .nilIface N)
 (fun e I' H'=>e= .returned (.tuple #[])∧c1o r I' A (.int .u32 1) (.int .i32 0) H'):=by
 refine yS.ob func172 ?_;intro w0 _;refine Cj.sr (aA yP ?_);refine aA zQ ?_;refine aA (qq2 (off':=0) a7t sizeOf271) ?_;refine bY bM ?_;refine aH rfl (yT (H1:=[_]) rfl rfl rfl rfl rfl (b3N A 281 0 _ 0 rfl _) ?_ (fun _ _ _ _ h=>by cases h.1) (fun _ _ h=>by cases h.1));intro _ _ _ a0 a2;have O:=O.mono a0;obtain⟨h,rfl⟩:=a2;cases h;refine aA (ER rfl rfl) ?_;refine J.ns (aQ rfl (fun Z=>?_) (fun Z=>aB (aP (aT (zD not rfl)) Z)));refine aI (aA yP ?_);refine aA yP ?_;refine bY bM ?_;refine aH rfl (yT (H1:=[_]) rfl rfl rfl rfl rfl (b8T hB A N _ O) ?_ (fun _ _ _ _ h=>by cases h.1) (fun _ _ h=>by cases h.1));intro _ _ _ Q a1;have O:=O.mono Q;obtain⟨h,xb,a3,rfl⟩:=a1;cases h;refine bV (Ej.RY rfl rfl ?_);exact⟨rfl,xb,a3,rfl⟩
theorem b5s{A r}(hB:a1X A r) N G s (hs:s.length≤1000000000) I (O:LD 9 I A G):yS aF 120 [ptr N 0,str s] I (a7x N (.int .u32 0) (.int .i32 0) (.int .u32 0) .nilIface G)
 (fun e I' H'=>e= .returned (str (Rp.rep r s))∧H'=[]):=by
 refine yS.ob func120 ?_;intro w0 _;refine Cj.sr (aA yQ ?_);refine J.yX (aA yP ?_);refine aA zQ ?_;refine aA (qq2 (off':=0) a4H sizeOf277) ?_;refine aA yP ?_;refine aA (DY rfl rfl rfl) ?_;refine bY bM ?_;refine aH rfl (yT (H1:=[_]) rfl rfl rfl rfl rfl (c5f hB N G _ O) ?_ (fun _ _ _ _ h=>by cases h.1) (fun _ _ h=>by cases h.1));intro _ _ _ Q Z;have O:=O.mono Q;obtain⟨h,xb,a0,rfl⟩:=Z;cases h;refine J.yX (aA yP ?_);refine aA zQ ?_;refine aA (qq2 (off':=3) a4H sizeOf279) ?_;refine aA (yV isAgg279 (yR.at 0 rfl)) ?_;refine aA yP ?_;refine aH rfl (b8U (H1:=[]) (T:=369) rfl rfl rfl rfl rfl kR underlying369 (b9O _ xb s hs _ a0) ?_ (fun _ _ _ _ h=>by cases h.1) (fun _ _ h=>by cases h.1));rintro _ _ _ _ ⟨h,rfl,rfl⟩;cases h;refine aA yQ ?_;refine J.ns (aN (Ej.bare ?_));refine zM ?_;exact rT
theorem b3E:(Value.agg fF).cells=(tab (fun _=> .slice none 0 0) (.slice none 0 0)).toArray:=by
 show fF=_;kernel_rfl
theorem b7z:a1X [[32],[],[45],[]] (Rp.two 32 [] 45 []):=by
 intro _ _ _ _ _ _ I ho;obtain⟨ob,_,_,rfl,h⟩:=ho;rw[show([[32],[],[45],[]]:List (List UInt8)).length=4 from rfl];refine yS.ob func233 ?_;intro w0 _;refine Cj.sr (aA yQ ?_);refine J.yX (aA yP ?_);refine aA zQ ?_;refine aA (qq2 (off':=4) a4H KR) ?_;refine aA (yV PY (yR.at 0 rfl)) ?_;refine aA yQ ?_;refine J.zX (aI (aA yP ?_));refine aA (zZ AO) ?_;refine aA DW ?_;refine aA yP ?_;refine J.sk 3 22 23 (by first|rfl|decide) ?_;refine J.sk 3 22 24 (by first|rfl|decide) ?_;refine J.sk 3 22 25 (by first|rfl|decide) ?_;refine J.sk 3 22 26 (by first|rfl|decide) ?_;refine J.sk 3 22 27 (by first|rfl|decide) ?_;refine aA (ET rfl rfl (by first|rfl|decide) rfl) ?_;refine J.c0 (fun _=>?_);refine Cj.ks (Cj.sr (aA yQ ?_));refine J.zX (aI (aA yQ ?_));refine J.ns (bC (Cj.rounds 3 ?_));refine dX ?_;refine aV (Cj.sr (aA yP ?_));refine aA yP ?_;refine aA (zZ AO) ?_;refine aA AV ?_;refine J.ns (aQ rfl (fun a3=>?_) (fun a3=>aB (aP (aT (by first|rfl|decide)) a3)));refine Cj.ks (aV (bC (aV (Cj.sr (aA yP ?_)))));refine aA yP ?_;refine aA (EL (off':=0) rfl rfl rfl AO zS dE dE dE) ?_;refine aA (yV BR (bQ h)) ?_;refine aA (CG rfl rfl BU) ?_;refine aA (GH rfl rfl rfl) ?_;refine J.ns (aQ rfl (fun a4=>aB (aP (aT (by first|rfl|decide)) a4)) (fun a4=>?_));refine Cj.ks (Cj.sr (aA yP ?_));refine aA yP ?_;refine aA (yY rfl rfl rfl (zV oM)) ?_;refine aA (EL (off':=1) rfl rfl rfl AO zS dE dE dE) ?_;refine aA (yV BR (bQ h)) ?_;refine aA (CG rfl rfl BU) ?_;refine aA (GH rfl rfl rfl) ?_;refine J.ns (aQ rfl (fun a5=>?_) (fun a5=>aB (aP (aT (by first|rfl|decide)) a5)));refine aI (aA yQ ?_);refine J.nb (aI (aA yP ?_));refine aA (yY rfl rfl rfl (zV oM)) ?_;refine aA yQ ?_;refine bV (eP ?_);refine dX ?_;refine aV (Cj.sr (aA yP ?_));refine aA yP ?_;refine aA (zZ AO) ?_;refine aA AV ?_;refine J.ns (aQ rfl (fun a6=>?_) (fun a6=>aB (aP (aT (by first|rfl|decide)) a6)));refine Cj.ks (aV (bC (aV (Cj.sr (aA yP ?_)))));refine aA yP ?_;refine aA (EL (off':=2) rfl rfl rfl AO zS dE dE dE) ?_;refine aA (yV BR (bQ h)) ?_;refine aA (CG rfl rfl BU) ?_;refine aA (GH rfl rfl rfl) ?_;refine J.ns (aQ rfl (fun a7=>aB (aP (aT (by first|rfl|decide)) a7)) (fun a7=>?_));refine Cj.ks (Cj.sr (aA yP ?_));refine aA yP ?_;refine aA (yY rfl rfl rfl (zV oM)) ?_;refine aA (EL (off':=3) rfl rfl rfl AO zS dE dE dE) ?_;refine aA (yV BR (bQ h)) ?_;refine aA (CG rfl rfl BU) ?_;refine aA (GH rfl rfl rfl) ?_;refine J.ns (aQ rfl (fun a8=>?_) (fun a8=>aB (aP (aT (by first|rfl|decide)) a8)));refine aI (aA yQ ?_);refine J.nb (aI (aA yP ?_));refine aA (yY rfl rfl rfl (zV oM)) ?_;refine aA yQ ?_;refine bV (eP ?_);refine dX ?_;refine aV (Cj.sr (aA yP ?_));refine aA yP ?_;refine aA (zZ AO) ?_;refine aA AV ?_;refine J.ns (aQ rfl (fun a9=>aB (aP (aT (by first|rfl|decide)) a9)) (fun a9=>?_));refine fZ (dA (dA (dZ (eU (aV (Cj.sr (aA yP ?_)))))));refine J.c0 (fun _=>?_);refine Cj.ks (Cj.sr (aA yP ?_));refine aA (zZ AO) ?_;refine aA (b6S rfl rfl rfl dE dE) ?_;refine aH rfl (a3j (n:=0) (c:=2) (by1:=16) (z:=(str [])) rfl rfl rfl rfl rfl AO kR rfl oM oM oM ?_);intro aa ab;refine aA (BD (zs:=tab (fun _=> .slice none 0 0) (.slice none 0 0)) (cs:=tab (fun _=> .slice none 0 0) (.slice (some ⟨aa,0,none⟩) 0 2)) (pl:= #[(0,256),(256,1)]) rfl rfl zeroValue368 b3E NK (fun w=>by simp[UR,KR]) (KP.part rfl rfl rfl (c2b _ _ _) KP.none)) ?_;refine aH rfl (a9Z (zs:=tab (fun _=> .slice none 0 0) (.slice none 0 0)) rfl rfl rfl zeroValue368 b3E ?_);intro aj ac;refine aH rfl (EN 0 rfl rfl rfl rfl rfl (c3V (fun _=>rfl) rfl) sizeOf368 (OT _ _) rfl (EW.all (by rw[OT,OT])) bG ?_);refine bY bM ?_;refine bY (bH (bH bM)) ?_;refine J.zX (aI (aA yP ?_));refine aA (zZ AO) ?_;refine aA (EP rfl rfl rfl (zV oM)) ?_;refine aA yQ ?_;refine J.ns (bC (Cj.rounds 3 ?_));refine dX ?_;refine aV (Cj.sr (aA yP ?_));refine aA (JQ rfl rfl rfl) ?_;refine J.ns (aQ rfl (fun O=>?_) (fun O=>aB (aP (aT (by first|rfl|decide)) O)));refine Cj.ks (aV (bC (Cj.sr (aA yP ?_))));refine aA yP ?_;refine aA (EL (off':=2) rfl rfl rfl AO zS dE dE dE) ?_;refine aA (yV BR (bQ h)) ?_;refine aA (GK (c:=45) rfl rfl rfl BU dE rfl) ?_;refine aA yQ ?_;refine J.yX (aA yP ?_);refine aA yP ?_;refine aA (yY rfl rfl rfl (zV oM)) ?_;refine aA (EL (off':=3) rfl rfl rfl AO zS dE dE dE) ?_;refine aA (yV BR (bQ h)) ?_;refine aA yQ ?_;refine J.zX (aI (aA yP ?_));refine aA (qq2 (off':=0) NK UR) ?_;refine aA (JU (off':=45) rfl rfl rfl WU JG dE dE dE) ?_;refine aA (II rfl rfl OC (yR.at 1 rfl) (SX _ _ dE)) ?_;refine J.eqv 116 rfl (show _= .slice none 0 0 from(by first|rfl|exact zF dE)) ?_;refine aA (a5l _ rfl rfl rfl FK) ?_;refine J.c1 (fun _=>?_);refine aI (aA (qq2 (off':=256) NK KR) ?_);refine aA (EF PY (yR.at 1 rfl) (a6I _ _)) ?_;refine aA yP ?_;refine aH rfl (BQ FK VN tZ5 (aG rfl dF) ?_);intro _ _;refine aA (a0t [45] rfl rfl rfl FK BU XL (yR.at 0 rfl) rfl) ?_;refine aH rfl (BQ AO zS JY (aG rfl dF) ?_);intro _ _;refine aH rfl (BI (by':=15) (n:=0) (g:=some (aa,2,List.replicate 2 (str []))) (xs:=[]) [_,_,_,_] rfl rfl rfl rfl rfl AO (.inr ⟨_,AO⟩) kR zS JY rfl ⟨ab,rfl,rfl⟩ rfl (eH (yR.at 0 rfl) rfl rfl rfl) oM ?_);intro _ ad;refine aA (qq2 (off':=256) NK KR) ?_;refine aH rfl (RU 3 rfl rfl rfl rfl (a9h _ _) (b3Z _ _) KR rfl (.inl rfl) (by rw[OT];decide) (DZ.tr (aZ (aZ (aZ bG)))) ?_);refine J.GI (aA yP ?_);refine aA yP ?_;refine aH rfl (a0i rfl rfl rfl rfl BU FK XL ?_);intro ak _ _ _ ae _;refine eX ae (fun _ a1 A=>?_);have h:=a1 _ _ h;refine aA (qq2 (off':=0) NK UR) ?_;refine aA (JU (off':=45) rfl rfl rfl WU JG dE dE dE) ?_;refine aH rfl (RU 3 rfl rfl rfl rfl rfl rfl JG rfl (.inl rfl) (by rw[OT];decide) (DZ.tb dE (aZ (aZ (aZ bG)))) ?_);refine J.nb (aI (aA yP ?_));refine aA (EP rfl rfl rfl (zV oM)) ?_;refine aA yQ ?_;refine bV (eP ?_);refine dX ?_;refine aV (Cj.sr (aA yP ?_));refine aA (JQ rfl rfl rfl) ?_;refine J.ns (aQ rfl (fun Q=>?_) (fun Q=>aB (aP (aT (by first|rfl|decide)) Q)));refine Cj.ks (aV (bC (Cj.sr (aA yP ?_))));refine aA yP ?_;refine aA (EL (off':=0) rfl rfl rfl AO zS dE dE dE) ?_;refine aA (yV BR (bQ h)) ?_;refine aA (GK (c:=32) rfl rfl rfl BU dE rfl) ?_;refine aA yQ ?_;refine J.yX (aA yP ?_);refine aA yP ?_;refine aA (yY rfl rfl rfl (zV oM)) ?_;refine aA (EL (off':=1) rfl rfl rfl AO zS dE dE dE) ?_;refine aA (yV BR (bQ h)) ?_;refine aA yQ ?_;refine J.zX (aI (aA yP ?_));refine aA (qq2 (off':=0) NK UR) ?_;refine aA (JU (off':=32) rfl rfl rfl WU JG dE dE dE) ?_;refine aA (II rfl rfl OC (yR.at 3 rfl) (SX _ _ dE)) ?_;refine J.eqv 116 rfl (show _= .slice none 0 0 from(by first|rfl|exact zF dE)) ?_;refine aA (a5l _ rfl rfl rfl FK) ?_;refine J.c1 (fun _=>?_);refine aI (aA (qq2 (off':=256) NK KR) ?_);refine aA (EF PY (yR.at 3 rfl) (a6I _ _)) ?_;refine aA yP ?_;refine aH rfl (BQ FK VN tZ5 (aG rfl dF) ?_);intro _ _;refine aA (a0t [32] rfl rfl rfl FK BU XL (yR.at 0 rfl) rfl) ?_;refine aH rfl (BQ AO zS JY (aG rfl dF) ?_);intro _ _;refine aH rfl (BI (by':=15) [_,_,_,_,_,_] rfl rfl rfl rfl rfl AO (.inr ⟨_,AO⟩) kR zS JY rfl ad rfl (eH (yR.at 0 rfl) rfl rfl rfl) oM ?_);intro _ af;refine aA (qq2 (off':=256) NK KR) ?_;refine aH rfl (RU 5 rfl rfl rfl rfl (a9h _ _) (b3Z _ _) KR rfl (.inl rfl) (by rw[OT];decide) (DZ.tr (aZ (aZ (aZ (aZ (aZ bG)))))) ?_);refine J.GI (aA yP ?_);refine aA yP ?_;refine aH rfl (a0i rfl rfl rfl rfl BU FK XL ?_);intro al _ _ _ ag _;refine eX ag (fun _ N a2=>?_);have h:=N _ _ h;have A:=N _ _ A;refine aA (qq2 (off':=0) NK UR) ?_;refine aA (JU (off':=32) rfl rfl rfl WU JG dE dE dE) ?_;refine aH rfl (RU 5 rfl rfl rfl rfl rfl rfl JG rfl (.inl rfl) (by rw[OT];decide) (DZ.tb dE (aZ (aZ (aZ (aZ (aZ bG)))))) ?_);refine J.nb (aI (aA yP ?_));refine aA (EP rfl rfl rfl (zV oM)) ?_;refine aA yQ ?_;refine bV (eP ?_);refine dX ?_;refine aV (Cj.sr (aA yP ?_));refine aA (JQ rfl rfl rfl) ?_;refine J.ns (aQ rfl (fun Z=>aB (aP (aT (by first|rfl|decide)) Z)) (fun Z=>?_));refine fZ (dA (dA (dZ (eU (Cj.sr (aA (a3s rfl rfl underlying369 rfl) ?_))))));refine aA yQ ?_;refine J.ns (aN ?_);obtain⟨gb,gc,am,rfl,an⟩:=af.some dE;refine Ej.pull (bH (bH (bH (bH (bH (bH bM)))))) ?_;refine fO an (fun _ a0 ah=>?_);refine Ej.pull (bH (bH (bH (bH (bH bM))))) ?_;refine fO ac (fun _ G ai=>?_);refine bU (dB (dB (dB (dB (dI fE))))) ?_;refine zM ?_;exact⟨aj,rfl,BSG.two dE dE dE ai ⟨ak,_,_,_,rfl,G _ _ (a0 _ _ A)⟩ ⟨al,_,_,_,rfl,G _ _ (a0 _ _ a2)⟩ ⟨gb,gc,am,rfl,G _ _ ah⟩,rfl⟩
theorem c3J s:Rp.rep (Rp.two 32 [] 45 []) s=gG s:=by
 induction s with
 |nil=>rfl
 |cons c s h=>
  show Rp.one _ c++Rp.rep _ s=gG (c::s);rw[h];unfold gG Rp.one Rp.two;rw[List.filter_cons,Ke.c5i]
  by_cases h1:c=32
  ·simp[h1]
  by_cases h2:c=45
  ·simp[h2]
  simp[h1,h2]
theorem b2R A h s (hs:s.length≤1000000000) I (G:LD 9 I [[32],[],[45],[]] h):yS aF 120 [ptr A 0,str s] I (a7x A (.int .u32 0) (.int .i32 0) (.int .u32 0) .nilIface h) (fun e N H'=>e= .returned (str (gG s))∧H'=[]):=by
 rw[←c3J];exact b5s b7z A h s hs I G
end Go.Proofs.YtdjkhllhakhjbaaGreatDoor
namespace Ke
open Go Go.Sx
def a2O:Nat→List (Nat×Bs)→ML Int
 |_,[]=>[]
 |i,(c,s)::r=>((c:Int),eY s,i)::a2O (i+1) r
def a0T (l:List (Nat×Bs)):ML Int:=a2O 0 l
theorem cc(c d:Nat):((c:Int) == (d:Int))=(c == d):=by rw[Bool.eq_iff_iff,beq_iff_eq,beq_iff_eq];omega
theorem a5H:∀(l:List (Nat×Bs)) (i c:Nat),BF (a2O i l) (c:Int)=(l.lookup c).map eY
 |[],_,_=>rfl
 |(d,s)::r,i,c=>by
  simp only[a2O,BF,cc,dM]
  by_cases h:c=d
  ·subst h;simp
  have:(c == d)=false:=by simpa using h
  rw[this];simp only[fA,if_false];exact a5H r (i+1) c
theorem b2q:∀(l:List (Nat×Bs)) (i c:Nat) (s:Bs),c ∉ l.map (·.1)→BN (a2O i l) (c:Int) (eY s) (i+l.length)=a2O i (l++[(c,s)])
 |[],_,_,_,_=>rfl
 |(d,t)::r,i,c,s,h=>by
  simp only[bZ,dH,not_or]at h;have:(c == d)=false:=by simpa using h.1
  simp only[a2O,BN,cc,this,dN,aS];simp only[fA,if_false];rw[←b2q r (i+1) c s h.2,show i+1+r.length=i+(r.length+1) by omega]
theorem a5j:∀{l:List (Nat×Bs)} {c:Nat},c ∉ l.map (·.1)→l.lookup c=none
 |[],_,_=>rfl
 |(d,t)::r,c,h=>by
  simp only[bZ,dH,not_or]at h;have:(c == d)=false:=by simpa using h.1
  rw[dM,this];exact a5j h.2
theorem b0w{l}{c:Nat}{s}(h:c ∉ l.map (·.1)):BN (a0T l) (c:Int) (eY s) l.length=a0T (l++[(c,s)])∧EU (a0T l) (c:Int) l.length=(l++[(c,s)]).length:=by
 refine⟨by have:=b2q l 0 c s h;rwa [Nat.zero_add]at this,?_⟩;unfold EU a0T;rw[a5H,a5j h];simp
def a9T:List Bs:=rows.map fun p=>p.1++32::p.2
theorem a2T:∀(x y:List (Bs×Bs)),MJ (x++y)=MJ x++MJ y
 |[],_=>rfl
 |(a,b)::r,y=>by simp only[dN,MJ,a2T r y,fG]
theorem b2z{k a b}(h:rows[k]?=some (a,b)):MJ (rows.take (k+1))=MJ (rows.take k)++(runes b).map (·,a):=by
 obtain⟨A,hg⟩:=bF.1 h;rw[List.take_succ_eq_append_getElem A,hg,a2T];simp[MJ]
theorem fresh{k c a b x y}(h:rows[k]?=some (a,b))(hr:runes b=x++c::y):c ∉ (MJ (rows.take k)++x.map (·,a)).map (·.1):=by
 have hn:=b8r;have e:rows=rows.take k++(a,b)::rows.drop (k+1):=by
  obtain⟨A,hg⟩:=bF.1 h;rw[←hg,←List.drop_eq_getElem_cons A,List.take_append_drop]
 rw[←b8a,e,a2T]at hn;simp only[MJ,hr,dS,bZ]at hn;have N:(MJ (rows.take k)).map (·.1)++((x.map (·,a)).map (·.1)++c::(y.map (·,a)).map (·.1)++(MJ (rows.drop (k+1))).map (·.1))=((MJ (rows.take k)).map (·.1)++(x.map (·,a)).map (·.1))++c::((y.map (·,a)).map (·.1)++(MJ (rows.drop (k+1))).map (·.1)):=sI;rw[N,List.nodup_append]at hn;intro G;rw[dS]at G;exact hn.2.2 c G c (.head _) rfl
theorem b8q:∀p∈rows,p.1.all (fun c=>decide (c≠32))=true∧p.1.length≤10∧p.2.length≤100:=by decide +kernel
def cutAt (c:UInt8):Bs→Bs×Bs×Bool
 |[]=>([],[],false)
 |d::r=>if d=c then([],r,true)else(d::(cutAt c r).1,(cutAt c r).2)
theorem a9f:∀{a b:Bs} {c:UInt8},a.all (fun d=>decide (d≠c))=true→cutAt c (a++c::b)=(a,b,true)
 |[],b,c,_=>by simp[cutAt]
 |d::r,b,c,h=>by
  rw[List.all_cons,Bool.and_eq_true]at h;have A:d≠c:=zA h.1;simp only[dN,cutAt,zF A,a9f h.2]
theorem a3L:∀(c:UInt8) (s:Bs),(cO s c= -1∧cutAt c s=(s,[],false))∨∃n:Nat,cO s c=n∧n<s.length∧cutAt c s=(s.take n,s.drop (n+1),true)
 |c,[]=> .inl rT
 |c,d::r=>by
  unfold cO
  by_cases hd:d=c
  ·subst hd;exact .inr ⟨0,sI,sI,by simp[cutAt]⟩
  have h:(d == c)=false:=by simpa using hd
  rw[h];rcases a3L c r with⟨A,G⟩|⟨n,N,Q,O⟩
  ·rw[A];exact .inl ⟨sI,by simp[cutAt,hd,G]⟩
  rw[N];have hn:((n:Int) == -1)=false:=by
   rw[beq_eq_false_iff_ne];omega
  rw[hn];exact .inr ⟨n+1,sI,by simp;omega,by simp[cutAt,hd,O]⟩
theorem a4Y{b i x}(h:runes b=x++runes (b.drop i))(A:i<b.length):runes b=x++(aC ⟨b.toArray⟩ i).1::runes (b.drop (i+(aC ⟨b.toArray⟩ i).2)):=by
 rw[h,a2L A]
theorem b2k{b i x}(h:runes b=x++runes (b.drop i))(A:i<b.length):runes b=(x++[(aC ⟨b.toArray⟩ i).1])++runes (b.drop (i+(aC ⟨b.toArray⟩ i).2)):=by
 rw[a4Y h A];simp
theorem b6h{b i x}(h:runes b=x++runes (b.drop i))(A:¬i<b.length):runes b=x:=by
 rw[h,a4j oM,List.append_nil]
end Ke
namespace Go.Proofs.YtdjkhllhakhjbaaGreatDoor
open _root_.Go.Proofs.Tryz
open Go Go.Sx
def Tab (I:Heap) (b:Nat):Prop:=I b=some (zY (fun a:Int=>cZ .i32 a) (Ke.a0T dG) 207)
theorem Tab.mono{I A b}(h:Tab I b)(G:Le I A):Tab A b:=G _ _ h
theorem YN{a b:Prop}[Decidable a][Decidable b](h:(decide a && decide b)=true):a∧b:=by simpa using h
theorem YV{a b:Prop}[Decidable a][Decidable b](h:(decide a && decide b)=false):¬(a∧b):=fun g=>by simp[g.1,g.2]at h
theorem KZ c a b I:Pure aF 177 [.int .i32 c,.int .i32 a,.int .i32 b] I (.bool (decide (a≤c) && decide (c≤b))):=by
 refine yS.ob func177 ?_;intro w0 _;refine Cj.sr (aA yQ ?_);refine J.yX (aA yP ?_);refine aA yP ?_;refine aA (JQ rfl rfl rfl) ?_;refine aA yP ?_;refine J.split 10 rfl (fun A=>?_) (fun A=>?_)
 ·refine zU 3 10 true A (zK yP ?_);refine zU 3 10 true A (zK yP ?_);refine zU 3 10 true A (zK (ZC rfl rfl rfl) ?_);refine aA (EO A) ?_;refine aA yQ ?_;refine J.ns (aN (zM ?_));refine⟨?_,rfl,rfl⟩;have h:=A
  first|(simp_all;done)|(simp_all;omega)
 refine AP 3 10 11 true A ?_;refine AP 3 10 12 true A ?_;refine AP 3 10 13 true A ?_;refine aA (ED A) ?_;refine aA yQ ?_;refine J.ns (aN (zM ?_));refine⟨?_,rfl,rfl⟩;have h:=A
 first|(simp_all;done)|(simp_all;omega)
theorem c2M(c b:Nat)(hc:c≤1114111) I (hT:Tab I b):Pure aF 130 [.int .i32 (c:Int),.map (some b)] I (str (aU c)):=by
 have hm:BF (Ke.a0T dG) (c:Int)=(dG.lookup c).map str:=Ke.a5H _ 0 c;refine yS.ob func130 ?_;intro w0 _;refine Cj.sr (aA yQ ?_);refine J.nss (bC (aV (Cj.sr (aA yP ?_))));refine aH rfl (yU rfl rfl rfl rfl rfl (KZ _ _ _ _) ?_);refine aA yQ ?_;refine J.cd (fun a3=>?_) (fun a3=>?_)
 ·have b4:=YN a3;refine Cj.ks (aQ rfl (fun ad=>?_) (fun ad=>aB (aP (aT a3) ad)));refine Cj.sr (aA yP ?_);refine aA (LC rfl rfl ZN BU) ?_;refine aA yQ ?_;refine J.ns (aN (aW (aY (zM ?_))));refine⟨?_,rfl,rfl⟩;refine zD (fun l=>aJ (str l)) ?_;unfold aU;rw[zG oM];exact bD (by unfold dP;omega)
 have b5:=YV a3;refine aI (aA yP ?_);refine aH rfl (yU rfl rfl rfl rfl rfl (KZ _ _ _ _) ?_);refine aA yQ ?_;refine J.cd (fun a5=>?_) (fun a5=>?_)
 ·have b6:=YN a5;refine Cj.sr (aA yP ?_);refine aA (LC rfl rfl ZN BU) ?_;refine aA yQ ?_;refine J.ns (aN (aW (aY (zM ?_))));refine⟨?_,rfl,rfl⟩;refine zD (fun l=>aJ (str l)) ?_;unfold aU;rw[zG oM];exact bD (by unfold dP;omega)
 have b7:=YV a5;refine Cj.sr (aA yP ?_);refine aH rfl (yU rfl rfl rfl rfl rfl (KZ _ _ _ _) ?_);refine aA yQ ?_;refine J.cd (fun a6=>?_) (fun a6=>?_)
 ·have az:=YN a6;refine Cj.sr (aA yP ?_);refine aA (yY rfl rfl rfl (b5k oM)) ?_;refine aA (LC rfl rfl ZN BU) ?_;refine aA yQ ?_;refine J.ns (aN (aW (aY (zM ?_))));refine⟨?_,rfl,rfl⟩;refine zD (fun l=>aJ (str l)) ?_;unfold aU;rw[zF oM,zG oM];exact(zD (fun n:Int=>(dW n).data.toList) oM).trans (bD (c:=c+32) (by unfold dP;omega))
 have b0:=YV a6;refine Cj.sr (aA yP ?_);refine aA AV ?_;refine aA yQ ?_;refine J.cd (fun Z=>?_) (fun Z=>?_)
 ·have af:=BH Z;have b1:=BH Z;refine Cj.sr (aA yQ ?_);refine J.ns (aN (aW (aY (zM ?_))));refine⟨?_,rfl,rfl⟩;refine zD (fun l=>aJ (str l)) ?_;unfold aU;rw[zF oM,zF oM,zG oM]
 have af:=BJ Z;have b2:=BJ Z;refine aV (Cj.sr (aA yP ?_));refine aH rfl (yU rfl rfl rfl rfl rfl (KZ _ _ _ _) ?_);refine aA yQ ?_;refine J.cd (fun a4=>?_) (fun a4=>?_)
 ·have b3:=YN a4;refine Cj.ks (aQ rfl (fun ae=>?_) (fun ae=>aB (aP (aT a4) ae)));refine Cj.sr (aA yQ ?_);refine J.ns (aN (aW (aY (zM ?_))));refine⟨?_,rfl,rfl⟩;refine zD (fun l=>aJ (str l)) ?_;unfold aU;rw[zF oM,zF oM,zF oM,zG oM]
 have ag:=YV a4;refine aI (aA yP ?_);refine aH rfl (yU rfl rfl rfl rfl rfl (KZ _ _ _ _) ?_);refine aA yQ ?_;refine J.cd (fun a7=>?_) (fun a7=>?_)
 ·have ah:=YN a7;refine Cj.sr (aA yQ ?_);refine J.ns (aN (aW (aY (zM ?_))));refine⟨?_,rfl,rfl⟩;refine zD (fun l=>aJ (str l)) ?_;unfold aU;rw[zF oM,zF oM,zF oM,zG oM]
 have ai:=YV a7;refine Cj.kb (aV (Cj.sr (aA yP ?_)));refine aA yP ?_;refine aA (XE (kv:=fun a:Int=>cZ .i32 a) (l:=Ke.a0T dG) (a:=(c:Int)) rfl rfl rfl rfl underlying220 (GU.int ZN) JY (bQ hT)) ?_;refine aA yP ?_;refine aA AZ ?_;refine aA AZ ?_;refine aA yQ ?_;refine aA yQ ?_;refine J.yX (aA yP ?_);refine J.cd (fun a8=>?_) (fun a8=>?_)
 ·obtain⟨x,N⟩:=Option.isSome_iff_exists.1 (show(dG.lookup c).isSome=true by have h:=a8;rw[hm]at h;simpa using h);refine Cj.eqv 5 rfl (show _=str x from(by rw[hm,N];rfl)) ?_;refine Cj.sr (aA yP ?_);refine aA yQ ?_;refine J.ns (Cj.rs (zM ?_));refine⟨?_,rfl,rfl⟩;refine zD (fun l=>aJ (str l)) ?_;unfold aU;rw[zF oM,zF oM,zF oM,zF oM,N]
 have N:dG.lookup c=none:=by have h:=a8;rw[hm]at h;simpa using h
 refine Cj.ks (aV (bC (Cj.sr (aA yP ?_))));refine aA DW ?_;refine aA yQ ?_;refine J.cd (fun O=>?_) (fun O=>?_)
 ·have ab:=DF O;have aj:=DF O;refine Cj.sr (aA yQ ?_);refine J.ns (aN (aW (aY (zM ?_))));refine⟨?_,rfl,rfl⟩;refine zD (fun l=>aJ (str l)) ?_;unfold aU;rw[zF oM,zF oM,zF oM,zF oM,N];simp only;rw[zG oM];rfl
 have ab:=DU O;have ak:=DU O;refine aV (Cj.sr (aA yP ?_));refine aH rfl (yU rfl rfl rfl rfl rfl (KZ _ _ _ _) ?_);refine aA yQ ?_;refine J.cd (fun Q=>?_) (fun Q=>?_)
 ·have al:=YN Q;refine Cj.ks (aQ rfl (fun a9=>?_) (fun a9=>aB (aP (aT Q) a9)));refine Cj.sr (aA yP ?_);refine aA (LC rfl rfl ZN BU) ?_;refine aA yQ ?_;refine J.ns (aN (aW (aY (zM ?_))));refine⟨?_,rfl,rfl⟩;refine zD (fun l=>aJ (str l)) ?_;unfold aU;rw[zF oM,zF oM,zF oM,zF oM,N];simp only;rw[zF oM,zG oM];exact bD (by unfold dP;omega)
 have am:=YV Q;refine aI (aA yP ?_);refine aH rfl (yU rfl rfl rfl rfl rfl (KZ _ _ _ _) ?_);refine aA yQ ?_;refine J.cd (fun a0=>?_) (fun a0=>?_)
 ·have an:=YN a0;refine Cj.sr (aA yP ?_);refine aA (LC rfl rfl ZN BU) ?_;refine aA yQ ?_;refine J.ns (aN (aW (aY (zM ?_))));refine⟨?_,rfl,rfl⟩;refine zD (fun l=>aJ (str l)) ?_;unfold aU;rw[zF oM,zF oM,zF oM,zF oM,N];simp only;rw[zF oM,zG oM];exact bD (by unfold dP;omega)
 have ao:=YV a0;refine aV (Cj.sr (aA yP ?_));refine aH rfl (yU rfl rfl rfl rfl rfl (KZ _ _ _ _) ?_);refine aA yP ?_;refine J.split 49 rfl (fun A=>?_) (fun A=>?_)
 rotate_left
 ·have ap:=YV A;refine AP 2 49 50 true A ?_;refine AP 2 49 51 true A ?_;refine aA (ED A) ?_;refine aA yQ ?_;refine J.c0 (fun _=>?_);refine aI (aA yP ?_);refine aH rfl (yU rfl rfl rfl rfl rfl (KZ _ _ _ _) ?_);refine aA yQ ?_;refine J.cd (fun a1=>?_) (fun a1=>?_)
  ·have aq:=YN a1;refine Cj.sr (aA yP ?_);refine aA (yY rfl rfl rfl (b5k oM)) ?_;refine aA (LC rfl rfl ZN BU) ?_;refine aA yQ ?_;refine J.ns (aN (aW (aY (zM ?_))));refine⟨?_,rfl,rfl⟩;refine zD (fun l=>aJ (str l)) ?_;unfold aU;rw[zF oM,zF oM,zF oM,zF oM,N];simp only;rw[zF oM,zF oM,zG oM];exact(zD (fun n:Int=>(dW n).data.toList) oM).trans (bD (c:=c+32) (by unfold dP;omega))
  have ar:=YV a1;refine Cj.kb (Cj.sr (aA yQ ?_));refine J.ns (aN (zM ?_));refine⟨?_,rfl,rfl⟩;refine zD (fun l=>aJ (str l)) ?_;unfold aU;rw[zF oM,zF oM,zF oM,zF oM,N];simp only;rw[zF oM,zF oM,zF oM]
 have au:=YN A;refine zU 2 49 true A (zK yP ?_);refine zU 2 49 true A (zK (GH rfl rfl rfl) ?_);refine aA (EO A) ?_;refine aA yQ ?_;refine J.cd (fun G=>?_) (fun G=>?_)
 ·have ac:=bne_iff_ne.1 G;have av:(c:Int)≠930:=by have h:=G;simpa using h
  refine Cj.ks (aQ rfl (fun aa=>?_) (fun aa=>aB (aP (aT G) aa)));refine Cj.sr (aA yP ?_);refine aA (yY rfl rfl rfl (b5k oM)) ?_;refine aA (LC rfl rfl ZN BU) ?_;refine aA yQ ?_;refine J.ns (aN (aW (aY (zM ?_))));refine⟨?_,rfl,rfl⟩;refine zD (fun l=>aJ (str l)) ?_;unfold aU;rw[zF oM,zF oM,zF oM,zF oM,N];simp only;rw[zF oM,zF oM,zG oM];exact(zD (fun n:Int=>(dW n).data.toList) oM).trans (bD (c:=c+32) (by unfold dP;omega))
 have ac:=DI G;have aw:¬(c:Int)≠930:=by have h:=G;simpa using h
 refine aI (aA yP ?_);refine aH rfl (yU rfl rfl rfl rfl rfl (KZ _ _ _ _) ?_);refine aA yQ ?_;refine J.cd (fun a2=>?_) (fun a2=>?_)
 ·have ax:=YN a2;refine Cj.sr (aA yP ?_);refine aA (yY rfl rfl rfl (b5k oM)) ?_;refine aA (LC rfl rfl ZN BU) ?_;refine aA yQ ?_;refine J.ns (aN (aW (aY (zM ?_))));refine⟨?_,rfl,rfl⟩;refine zD (fun l=>aJ (str l)) ?_;unfold aU;rw[zF oM,zF oM,zF oM,zF oM,N];simp only;rw[zF oM,zF oM,zG oM];exact(zD (fun n:Int=>(dW n).data.toList) oM).trans (bD (c:=c+32) (by unfold dP;omega))
 have ay:=YV a2;refine Cj.kb (Cj.sr (aA yQ ?_));refine J.ns (aN (zM ?_));refine⟨?_,rfl,rfl⟩;refine zD (fun l=>aJ (str l)) ?_;unfold aU;rw[zF oM,zF oM,zF oM,zF oM,N];simp only;rw[zF oM,zF oM,zF oM]
theorem b7C s c I:Pure aF 307 [str s,str [c]] I (i64 (cO s c)):=
 Pure.of_same (dD func307 dE rfl) fun w _=>by
  have h:=Tryz.stringslite_Index_one ⟨s.toArray⟩ c w;rw[IJ]at h;exact h
theorem c3f s c (hs:s.length≤1000000000) I:Pure aF 281 [str s,str [c]] I (.tuple #[str (Ke.cutAt c s).1,str (Ke.cutAt c s).2.1,.bool (Ke.cutAt c s).2.2]):=by
 refine yS.ob func281 ?_;intro w0 _;refine Cj.sr (aA yQ ?_);refine aA yQ ?_;refine aA yQ ?_;refine J.zX (aI (aA yP ?_));refine aA yP ?_;refine aH rfl (yU rfl rfl rfl rfl rfl (b7C s c _) ?_);refine aA yQ ?_;refine J.yX (aA yP ?_);refine aA (JQ rfl rfl rfl) ?_;refine J.cd (fun G=>?_) (fun G=>?_)
 ·have N:=BH G;obtain⟨n,O,_,Q⟩:=(Ke.a3L c s).resolve_left (fun h=>by have:=BH G;omega);refine Cj.eqv 7 rfl (show _=i64 (n:Int) from zD i64 O) ?_;refine aV (fP [] [] 12 kR ?_);refine fQ BX (fun A=>?_);refine aO 0 rfl A yP ?_;refine aO 1 rfl A yP ?_;refine aO 2 rfl A (EC (p:=0) (q:=n) rfl rfl BU rfl ⟨_,rfl⟩ oM oM) ?_;refine JA.eqv 15 rfl (show _=str (s.take n) from(by rw[List.drop_zero])) ?_;refine aO 3 rfl A yP ?_;refine aO 4 rfl A yP ?_;refine aO 5 rfl A yP ?_;refine aO 6 rfl A (CG rfl rfl BU) ?_;refine aO 7 rfl A (yY rfl rfl rfl (zV (by simp only[aS,aX];omega))) ?_;refine aO 8 rfl A (EC (p:=n+1) (q:=s.length) rfl rfl BU ⟨_,rfl⟩ rfl oM oM) ?_;refine JA.eqv 21 rfl (show _=str (s.drop (n+1)) from(by rw[List.take_length])) ?_;refine aO 9 rfl A yQ ?_;refine aO 10 rfl A yQ ?_;refine aO 11 rfl A yQ ?_;refine AA ?_;refine eU (Cj.rs (Ej.c0T rfl rfl rfl rfl rfl ?_));refine⟨?_,rfl,rfl⟩;rw[Q]
 have N:=BJ G;have g:=(Ke.a3L c s).resolve_right (fun⟨n,h,_⟩=>by have:=BJ G;omega);refine Cj.ks (Cj.sr (aA yP ?_));refine aA yQ ?_;refine aA yQ ?_;refine aA yQ ?_;refine J.ns (aN (Ej.c0T rfl rfl rfl rfl rfl ?_));refine⟨?_,rfl,rfl⟩;rw[g.2];rfl
theorem c4O s c (hs:s.length≤1000000000) I:Pure aF 238 [str s,str [c]] I (.tuple #[str (Ke.cutAt c s).1,str (Ke.cutAt c s).2.1,.bool (Ke.cutAt c s).2.2]):=by
 refine yS.ob func238 ?_;intro w0 _;refine Cj.sr (aA yQ ?_);refine aA yQ ?_;refine aA yQ ?_;refine J.yX (aA yP ?_);refine aA yP ?_;refine aH rfl (yU rfl rfl rfl rfl rfl (c3f s c hs _) ?_);refine aA AZ ?_;refine aA AZ ?_;refine aA AZ ?_;refine aA yQ ?_;refine aA yQ ?_;refine aA yQ ?_;refine J.ns (aN (Ej.c0T rfl rfl rfl rfl rfl ?_));exact rT
theorem b2T N rc I (a3:I N=some (yZ 9 (Ke.a9T.map str))):yS aF 176 [.slice (some ⟨N,0,none⟩) 31 rc] I []
 (fun e I' H'=>∃tb,e= .returned (.map (some tb))∧H'=[(tb,zY (fun a:Int=>cZ .i32 a) (Ke.a0T dG) 207)]):=by
 refine yS.ob func176 ?_;intro w0 _;refine Cj.sr (aA yQ ?_);refine J.yX (aH rfl (BK rfl rfl rfl ?_));intro G _;refine aA yQ ?_;refine J.zX (aI (aA yP ?_));refine aA (zZ AO) ?_;refine aA yP ?_;refine J.ns (bC (Cj.loop (ι:=Nat) (fun k=>k≤31) (fun k=>31-k) (fun k=>[(3,.map (some G)),(12,.slice (some ⟨N,0,none⟩) 31 rc),(13,.int .i64 ((31:Nat):Int)),(14,i64 (k:Int))]) (fun k=>_) (fun k=>[(G,zY (fun a:Int=>cZ .i32 a) (Ke.a0T (dU (dJ.take k))) (dU (dJ.take k)).length)]) 0 (bT _) rT rfl rfl ?_));intro k _;refine Cj.sr (aA AV ?_);refine J.nss (aQ rfl (fun A=>?_) (fun A=>?_))
 ·have a2:=BH A;have a4:k<31:=by have:=BH A;omega
  obtain⟨⟨a,b⟩,h⟩:∃p,dJ[k]?=some p:=⟨_,DC (show k<dJ.length from a4)⟩;obtain⟨ha,a5,a6⟩:=Ke.b8q _ (FQ h);have a7:(Ke.a9T.map str)[k]?=some (str (a++32::b)):=by simp[Ke.a9T,h]
  refine Cj.ks (aV (bC (Cj.sr (aA (AU (off':=k) AO zS) ?_))));refine aA (EF BR (bQ a3) a7) ?_;refine aA yQ ?_;refine J.yX (aA yP ?_);refine aH rfl (yU rfl rfl rfl rfl rfl (c4O (a++32::b) 32 (by dsimp only at a5 a6;simp;omega) _) ?_);refine J.eqv 20 rfl (show _= .tuple #[str a,str b,.bool true] from(by rw[Ke.a9f ha])) ?_;refine aA yP ?_;refine aA AZ ?_;refine aA AZ ?_;refine aA AZ ?_;refine aA yQ ?_;refine aA yQ ?_;refine aA yQ ?_;refine J.yX (aA yP ?_);refine aH rfl (OH rfl rfl rfl rfl BU ?_);intro b3 _;refine J.ns (bC (Cj.loop (ι:=Nat×List Nat) (fun j=>j.1≤b.length∧Ke.runes b=j.2++Ke.runes (b.drop j.1)) (fun j=>b.length-j.1) (fun j=>[(3,.map (some G)),(6,str a),(12,.slice (some ⟨N,0,none⟩) 31 rc),(13,.int .i64 ((31:Nat):Int)),(14,i64 (k:Int)),(25,ptr b3 0)]) (fun j=>_) (fun j=>[(b3,.stringIter ⟨b.toArray⟩ j.1),(G,zY (fun a:Int=>cZ .i32 a) (Ke.a0T (dU (dJ.take k)++j.2.map (·,a))) (dU (dJ.take k)++j.2.map (·,a)).length)]) (0,[]) ⟨bT _,rfl⟩ rT rfl sI ?_));rintro⟨i,x⟩ ⟨hi,O⟩;dsimp only at hi O ⊢;rcases Nat.lt_or_ge i b.length with Q|Q
  ·have hw:=fU b Q;have Z:=Ke.fresh h (Ke.a4Y O Q);refine Cj.sr (aH rfl (XV 0 rfl rfl rfl rfl rfl (by rw[size_mk];omega) bG ?_));refine aA AZ ?_;refine J.nss (aQ rfl (fun a0=>?_) (fun a0=>aB (aP (aT rfl) a0)));refine Cj.ks (bC (Cj.sr (aA AZ ?_)));refine aA yQ ?_;refine J.GI (aA yP ?_);refine aA yP ?_;refine aA yP ?_;refine aH rfl (FH (kv:=fun a:Int=>cZ .i32 a) (a:=((aC ⟨b.toArray⟩ i).1:Int)) 1 (.inr rfl) rfl rfl rfl rfl rfl underlying220 (GU.int ZN) rfl (aZ bG) ?_);rw[(Ke.b0w (s:=a) Z).1,(Ke.b0w (s:=a) Z).2];refine bV (dQ (eF (i+(aC ⟨b.toArray⟩ i).2,x++[(aC ⟨b.toArray⟩ i).1]) ⟨hw.2,Ke.b2k O Q⟩ dO rT rfl (by simp only[dS,bZ,List.map_nil,fG])))

  refine Cj.sr (aH rfl (TL 0 rfl rfl rfl rfl rfl (by rw[size_mk];omega) ?_));refine aA AZ ?_;refine J.nss (aQ rfl (fun a1=>aB (aP (aT rfl) a1)) (fun a1=>?_));refine fZ (dA (Ej.IB (dZ (dQ (eU (aI (aA (yY rfl rfl rfl (zV oM)) ?_)))))));refine aA yP ?_;refine bV (bU (dB (dI fE)) ?_);refine eF (k+1) oM oM rT rfl (by rw[Ke.b2z h,Ke.b6h O oM])
 have a2:=BJ A;refine Cj.xl (Cj.sr (aA yP ?_));refine aA yQ ?_;refine J.ns (aN ?_);obtain rfl:k=31:=oM;refine zM ?_;have he:dU (dJ.take 31)=dG:=by rw[List.take_of_length_le dE];exact Ke.b8a
 refine⟨G,rfl,?_⟩;rw[he];rfl
theorem b9c:yZ 9 (Ke.a9T.map str)=yZ 9 [str [97,32,195,160,195,161,195,162,195,163,195,164,195,165,196,129,196,131,196,133,195,128,195,129,195,130,195,131,195,132,195,133,196,128,196,130,196,132],str [99,32,195,167,196,135,196,137,196,139,196,141,195,135,196,134,196,136,196,138,196,140],str [100,32,196,143,196,145,195,176,196,142,196,144,195,144],str [101,32,195,168,195,169,195,170,195,171,196,147,196,149,196,151,196,153,196,155,195,136,195,137,195,138,195,139,196,146,196,148,196,150,196,152,196,154],str [103,32,196,157,196,159,196,161,196,163,196,156,196,158,196,160,196,162],str [104,32,196,165,196,167,196,164,196,166],str [105,32,195,172,195,173,195,174,195,175,196,169,196,171,196,173,196,175,196,177,195,140,195,141,195,142,195,143,196,168,196,170,196,172,196,174,196,176],str [106,32,196,181,196,180],str [107,32,196,183,196,182],str [108,32,196,186,196,188,196,190,197,130,196,185,196,187,196,189,197,129],str [110,32,195,177,197,132,197,134,197,136,195,145,197,131,197,133,197,135],str [111,32,195,178,195,179,195,180,195,181,195,182,195,184,197,141,197,143,197,145,198,161,195,146,195,147,195,148,195,149,195,150,195,152,197,140,197,142,197,144,198,160],str [114,32,197,149,197,151,197,153,197,148,197,150,197,152],str [115,32,197,155,197,157,197,159,197,161,197,154,197,156,197,158,197,160],str [116,32,197,163,197,165,197,167,197,162,197,164,197,166],str [117,32,195,185,195,186,195,187,195,188,197,169,197,171,197,173,197,175,197,177,197,179,198,176,195,153,195,154,195,155,195,156,197,168,197,170,197,172,197,174,197,176,197,178,198,175],str [119,32,197,181,197,180],str [121,32,195,189,195,191,197,183,195,157,197,184,197,182],str [122,32,197,186,197,188,197,190,197,185,197,187,197,189],str [97,101,32,195,166,195,134],str [111,101,32,197,147,197,146],str [115,115,32,195,159],str [116,104,32,195,190,195,158],str [206,177,32,206,172,206,134],str [206,181,32,206,173,206,136],str [206,183,32,206,174,206,137],str [206,185,32,206,175,207,138,206,144,206,138,206,170],str [206,191,32,207,140,206,140],str [207,133,32,207,141,207,139,206,176,206,142,206,171],str [207,137,32,207,142,206,143],str [208,181,32,209,145,208,129]]:=kR
theorem b4W I:yS aF 129 [] I [] (fun e Z H'=>∃tb,e= .returned (.map (some tb))∧H'=[(tb,zY (fun a:Int=>cZ .i32 a) (Ke.a0T dG) 207)]):=by
 refine yS.ob func129 ?_;intro w0 _;refine Cj.sr (aA yQ ?_);refine J.yX (aH rfl (BQ AO zS JY (aG rfl (aG rfl (aG rfl (aG rfl (aG rfl (aG rfl (aG rfl (aG rfl (aG rfl (aG rfl (aG rfl (aG rfl (aG rfl (aG rfl (aG rfl (aG rfl (aG rfl (aG rfl (aG rfl (aG rfl (aG rfl (aG rfl (aG rfl (aG rfl (aG rfl (aG rfl (aG rfl (aG rfl (aG rfl (aG rfl (aG rfl dF))))))))))))))))))))))))))))))) ?_));intro Q N;refine eX N (fun _ _ A=>?_);refine aH rfl (yT (H1:=[]) rfl rfl rfl rfl rfl (b2T Q _ _ (by rw[b9c];exact A)) ?_ (fun _ _ _ _ ⟨_,h,_⟩=>by cases h) (fun _ _ ⟨_,h,_⟩=>by cases h));intro _ _ _ G O;have A:=G _ _ A;obtain⟨tb,h,rfl⟩:=O;cases h;refine aA yQ ?_;refine J.ns (aN (zM ?_));exact⟨tb,rfl,rfl⟩
def LK (b:Nat) (l:List UInt8) (p:Bool) (g:Gs):HL:=(b,yZ 224 [if p then ptr b 0 else .pointer none,gV l.length g])::gH 5 (EY l) g
theorem a6K b v I:yS aF 178 [ptr b 0] I [(b,yZ 224 [.pointer none,v])] (fun e h H'=>e= .returned (.tuple #[])∧H'=[(b,yZ 224 [ptr b 0,v])]):=by
 refine yS.ob func178 ?_;intro w0 _;refine Cj.sr (aA yP ?_);refine aA zQ ?_;refine aA (qq2 (off':=0) OQ a2j) ?_;refine aA (yV isAgg222 (yR.at 0 rfl)) ?_;refine aA (OV a6z) ?_;refine J.c1 (fun _=>?_);refine aI (aA yP ?_);refine aA yP ?_;refine aA (b2N 1 rfl rfl a6z a9O kR (yR.at 0 rfl) sI) ?_;refine aA (b3j rfl rfl rfl func239 kR kR kR kR) ?_;refine aA (a9u rfl rfl a9O a6z kR (yR.at 0 rfl) kR) ?_;refine aA zQ ?_;refine aA (qq2 (off':=0) OQ a2j) ?_;refine aH rfl (AB 0 a2j (dK dL) bG ?_);refine bV (Ej.RY rfl rfl ?_);exact rT
theorem a7X b v I:yS aF 178 [ptr b 0] I [(b,yZ 224 [ptr b 0,v])] (fun e h H'=>e= .returned (.tuple #[])∧H'=[(b,yZ 224 [ptr b 0,v])]):=by
 refine yS.ob func178 ?_;intro w0 _;refine Cj.sr (aA yP ?_);refine aA zQ ?_;refine aA (qq2 (off':=0) OQ a2j) ?_;refine aA (yV isAgg222 (yR.at 0 rfl)) ?_;refine aA (OV a6z) ?_;refine J.c0 (fun _=>?_);refine Cj.sr (aA yP ?_);refine aA zQ ?_;refine aA (qq2 (off':=0) OQ a2j) ?_;refine aA (yV isAgg222 (yR.at 0 rfl)) ?_;refine aA yP ?_;refine aA (b4E rfl rfl rfl a6z kR) ?_;refine J.c0 (fun _=>?_);refine Cj.skip (Ej.RY rfl rfl ?_);exact rT
theorem a3z b (p:Bool) v I:yS aF 178 [ptr b 0] I [(b,yZ 224 [if p then ptr b 0 else .pointer none,v])] (fun e h H'=>e= .returned (.tuple #[])∧H'=[(b,yZ 224 [ptr b 0,v])]):=by
 cases p
 ·exact a6K b v I
 exact a7X b v I
theorem a3w b l c p g (hg:BM 0 1 l.length (EY l) g)(Z:l.length≤1000000000000) I:
 yS aF 169 [ptr b 0,u8 c] I (LK b l p g) (fun e I' H'=>e= .returned .nilIface∧∃A,BM 0 1 (l++[c]).length (EY (l++[c])) A∧H'=LK b (l++[c]) true A):=by
 refine yS.ob func169 ?_;intro w0 _;refine Cj.sr (aA yQ ?_);refine J.yX (aA yP ?_);refine bY bM ?_;refine aH rfl (yT (H1:=[_]) rfl rfl rfl rfl rfl (a3z b p _ _) ?_ (fun _ _ _ _ h=>by cases h.1) (fun _ _ h=>by cases h.1));intro _ _ _ _ G;obtain⟨N,rfl⟩:=G;cases N;refine J.yX (aA yP ?_);refine aA yP ?_;refine aA zQ ?_;refine aA (qq2 (off':=1) OQ JG) ?_;refine aA (yV OC (yR.at 0 rfl)) ?_;refine aA yP ?_;refine aH rfl (BQ FK VN tZ5 (aG rfl dF) ?_);intro _ _;refine aH rfl (JX 0 (bT _) (by':=0) [_,_] rfl rfl rfl rfl rfl FK (.inr ⟨_,FK⟩) kR VN tZ5 rfl hg rfl (eH (yR.at 0 rfl) rfl rfl rfl) oM ?_);intro Q O;refine aA zQ ?_;refine aA (qq2 (off':=1) OQ JG) ?_;refine aH rfl (EN 1 rfl rfl rfl rfl (NH _ _) (UF _ _) JG rfl rfl (bK (dK dL)) (aZ bG) ?_);refine J.yX (aA yQ ?_);refine J.ns (aN (bU (dB (dI Keeps.r)) ?_));refine zM ?_;exact⟨rfl,Q,by simpa[EY]using O,by simp[LK,EY]⟩
theorem a7R b l s p g (hg:BM 0 1 l.length (EY l) g)(Z:l.length≤1000000000000)(hs:s.length≤1000000000000) I:
 yS aF 131 [ptr b 0,str s] I (LK b l p g) (fun e I' H'=>e= .returned (.tuple #[i64 s.length,.nilIface])∧∃A,BM 0 1 (l++s).length (EY (l++s)) A∧H'=LK b (l++s) true A):=by
 refine yS.ob func131 ?_;intro w0 _;refine Cj.sr (aA yQ ?_);refine aA yQ ?_;refine J.yX (aA yP ?_);refine bY bM ?_;refine aH rfl (yT (H1:=[_]) rfl rfl rfl rfl rfl (a3z b p _ _) ?_ (fun _ _ _ _ h=>by cases h.1) (fun _ _ h=>by cases h.1));intro _ _ _ _ G;obtain⟨N,rfl⟩:=G;cases N;refine J.yX (aA yP ?_);refine aA yP ?_;refine aA zQ ?_;refine aA (qq2 (off':=1) OQ JG) ?_;refine aA (yV OC (yR.at 0 rfl)) ?_;refine aA yP ?_;refine aH rfl (JX 0 (bT _) (by':=0) [_] rfl rfl rfl rfl rfl FK (.inl BU) kR VN tZ5 rfl hg rfl Src.str oM ?_);intro Q O;refine aA zQ ?_;refine aA (qq2 (off':=1) OQ JG) ?_;refine aH rfl (EN 0 rfl rfl rfl rfl (NH _ _) (UF _ _) JG rfl rfl (bK (dK dL)) bG ?_);refine J.yX (aA yP ?_);refine aA (CG rfl rfl BU) ?_;refine aA yQ ?_;refine aA yQ ?_;refine J.ns (aN (bU (dI Keeps.r) ?_));refine Ej.a4h rfl rfl rfl rfl ?_;exact⟨rfl,Q,by simpa[EY]using O,by simp[LK,EY]⟩
theorem b5w b x I:yS aF 133 [ptr b 0] I [(b,yZ 224 [x,.slice none 0 0])] (fun e A H'=>e= .returned (str [])∧∃y z,H'=[(b,yZ 224 [y,z])]):=by
 refine yS.ob func133 ?_;intro w0 _;refine Cj.sr (aA yQ ?_);refine J.nss (fP [0] [] 12 kR ?_);refine fQ ⟨(fB 0 rfl fC),fD,(dY _)⟩ (fun BX=>?_);refine aO 0 rfl BX yP ?_;refine aO 1 rfl BX zQ ?_;refine aO 2 rfl BX (qq2 (off':=1) OQ JG) ?_;refine aO 3 rfl BX (yV OC (gB 0 rfl)) ?_;refine aO 4 rfl BX (a7f rfl rfl) ?_;refine aO 5 rfl BX yP ?_;refine aO 6 rfl BX zQ ?_;refine aO 7 rfl BX (qq2 (off':=1) OQ JG) ?_;refine aO 8 rfl BX (yV OC (gB 0 rfl)) ?_;refine aO 9 rfl BX (zZ FK) ?_;refine zO 10 rfl (zK (a3g rfl rfl rfl) ?_);refine⟨⟨(dY _),(fB 0 rfl fC),fD⟩,?_⟩;refine fQ ⟨(fB 0 rfl fC),fD,(dY _)⟩ (fun h=>?_);refine aO 11 rfl h yQ ?_;refine AA ?_;refine eU (aN (bU (dI fE) ?_));refine zM ?_;exact⟨rfl,_,_,rfl⟩
theorem b2X b h c x l sp (G:l≠[])(O:l.length≤1000000000000)(N:c≠0) I:yS aF 133 [ptr b 0] I [(b,yZ 224 [x,.slice (some ⟨h,0,none⟩) l.length c]),(h,yZ 5 (EY l++sp))] (fun e Q H'=>e= .returned (str l)∧∃y z,H'=[(b,yZ 224 [y,z])]):=by
 refine yS.ob func133 ?_;intro w0 _;refine Cj.sr (aA yQ ?_);refine J.nss (fP [0] [] 12 kR ?_);refine fQ ⟨(fB 0 rfl fC),fD,(dY _)⟩ (fun BX=>?_);refine aO 0 rfl BX yP ?_;refine aO 1 rfl BX zQ ?_;refine aO 2 rfl BX (qq2 (off':=1) OQ JG) ?_;refine aO 3 rfl BX (yV OC (gB 0 rfl)) ?_;refine aO 4 rfl BX (b1V rfl rfl N) ?_;refine aO 5 rfl BX yP ?_;refine aO 6 rfl BX zQ ?_;refine aO 7 rfl BX (qq2 (off':=1) OQ JG) ?_;refine aO 8 rfl BX (yV OC (gB 0 rfl)) ?_;refine aO 9 rfl BX (zZ FK) ?_;refine zO 10 rfl (a6J 1 l rfl rfl rfl rfl rfl underlying285 kR rfl G oM (aZ bG) ?_);refine⟨⟨(dY _),(fB 0 rfl fC),fD⟩,?_⟩;refine fQ ⟨(fB 0 rfl fC),fD,(dY _)⟩ (fun A=>?_);refine aO 11 rfl A yQ ?_;refine AA ?_;refine eU (aN (bU (dI (dB fE)) ?_));refine zM ?_;exact⟨rfl,_,_,rfl⟩
theorem a4r b l p g (hg:BM 0 1 l.length (EY l) g)(O:l=[]→g=none)(Q:l.length≤1000000000000) I:yS aF 133 [ptr b 0] I (LK b l p g) (fun e I' H'=>e= .returned (str l)∧∃y z,H'=[(b,yZ 224 [y,z])]):=by
 cases g with
 |none=>
  have:l=[]:=bW.1 hg.1;subst this;exact b5w b _ I
 |some q=>
  obtain⟨Z,c,sp⟩:=q;have A:l≠[]:=fun h=>by cases O h
  have G:=hg.2.1;have N:=hg.2.2;have:0<l.length:=List.length_pos_iff.2 A;exact b2X b Z c _ l sp A Q (by rw[G]at N;omega) I
theorem c3R b x I:yS aF 132 [ptr b 0] I [(b,yZ 224 [x,.slice none 0 0])] (fun e h H'=>e= .returned (i64 0)∧H'=[(b,yZ 224 [x,.slice none 0 0])]):=by
 refine yS.ob func132 ?_;intro w0 _;refine Cj.sr (aA yQ ?_);refine J.yX (aA yP ?_);refine aA zQ ?_;refine aA (qq2 (off':=1) OQ JG) ?_;refine aA (yV OC (yR.at 0 rfl)) ?_;refine aA (zZ FK) ?_;refine aA yQ ?_;refine J.ns (aN (zM ?_));exact rT
theorem c0f b x p n c I:yS aF 132 [ptr b 0] I [(b,yZ 224 [x,.slice p n c])] (fun e h H'=>e= .returned (i64 n)∧H'=[(b,yZ 224 [x,.slice p n c])]):=by
 refine yS.ob func132 ?_;intro w0 _;refine Cj.sr (aA yQ ?_);refine J.yX (aA yP ?_);refine aA zQ ?_;refine aA (qq2 (off':=1) OQ JG) ?_;refine aA (yV OC (yR.at 0 rfl)) ?_;refine aA (zZ FK) ?_;refine aA yQ ?_;refine J.ns (aN (zM ?_));exact rT
theorem c4x b x n g {sz xs}(hg:BM 0 sz n xs g) I:yS aF 132 [ptr b 0] I [(b,yZ 224 [x,gV n g])] (fun e h H'=>e= .returned (i64 n)∧H'=[(b,yZ 224 [x,gV n g])]):=by
 cases g with
 |none=>
  obtain rfl:n=0:=hg.1;exact c3R b x I
 |some q=>exact c0f b x _ n _ I
theorem c1f b x y I:yS aF 134 [ptr b 0] I [(b,yZ 224 [x,y])] (fun e h H'=>e= .returned (.tuple #[])∧H'=[(b,yZ 224 [.pointer none,.slice none 0 0])]):=by
 refine yS.ob func134 ?_;intro w0 _;refine Cj.sr (aA yP ?_);refine aA zQ ?_;refine aA (qq2 (off':=0) OQ a2j) ?_;refine aH rfl (AB 0 a2j (dK dL) bG ?_);refine J.GI (aA yP ?_);refine aA zQ ?_;refine aA (qq2 (off':=1) OQ JG) ?_;refine aH rfl (AB 0 JG (bK (dK dL)) bG ?_);refine bV (Ej.RY rfl rfl ?_);exact rT
end Go.Proofs.YtdjkhllhakhjbaaGreatDoor
namespace Ke
theorem a1U c:(enc c).length≤4:=by unfold enc;split<;>(try split)<;>(try split)<;>simp
theorem OT:tab.all (fun p=>decide (p.2.length≤4))=true:=by decide +kernel
theorem a7o:∀{l:List (Nat×Bs)} {c:Nat} {s:Bs},l.lookup c=some s→∃p∈l,p.2=s
 |[],_,_,h=>by cases h
 |(a,b)::r,c,s,h=>by
  rw[dM]at h
  split at h
  ·cases h;exact⟨_,.head _,rfl⟩
  obtain⟨p,A,G⟩:=a7o h;exact⟨p,.tail _ A,G⟩
theorem a6b c:(char c).length≤4:=by
 unfold char
 split
 ·exact a1U c
 split
 ·exact a1U _
 split
 ·simp
 split
 ·simp
 split
 ·rename_i s hs
  obtain⟨p,h,rfl⟩:=a7o hs;exact zA (fK.1 OT p h)
 split
 ·exact a1U _
 split
 ·exact a1U _
 split
 ·exact a1U _
 simp
theorem b6y w:wf w []=if w=[]then[]else[w]:=rfl
theorem c5e{c}(h:char c≠[32]) w r:wf w (c::r)=wf (w++char c) r:=by
 show(if char c=[32]then _ else _)=_;rw[zF h]
theorem c4z{c}(h:char c=[32]){w}(A:w≠[]) r:wf w (c::r)=w::wf [] r:=by
 show(if char c=[32]then(if w=[]then _ else _)else _)=_;rw[zG h,zF A]
theorem c2c{c}(h:char c=[32]) r:wf [] (c::r)=wf [] r:=by
 show(if char c=[32]then(if ([]:Bs)=[]then _ else _)else _)=_;rw[zG h,zG rfl]
theorem drop_at{α:Type}{l:List α}{k x r}(h:l.drop k=x::r):l[k]?=some x∧l.drop (k+1)=r:=by
 have A:=zD List.head? h;have G:=zD List.tail h;rw[List.head?_drop]at A;rw[List.tail_drop]at G;exact⟨A,G⟩
structure SI (s:Bs) (i k:Nat) (w:Bs):Prop where
  le:i≤s.length
  wl:w.length≤4*i
  kl:k≤(words s).length
  eq:(words s).drop k=wf w (runes (s.drop i))
theorem SI.start s:SI s 0 0 []:=⟨bT _,bT _,bT _,rfl⟩
theorem SI.in{s i k w}(h:SI s i k w)(A:i<s.length)(G:char (aC ⟨s.toArray⟩ i).1≠[32]):SI s (i+(aC ⟨s.toArray⟩ i).2) k (w++char (aC ⟨s.toArray⟩ i).1):=by
 obtain⟨_,N⟩:=SV s A;refine⟨N,?_,h.kl,by rw[h.eq,a2L A,c5e G]⟩;have:=a6b (aC ⟨s.toArray⟩ i).1;have:=h.wl;rw[bI];omega
theorem SI.c5t{s i k}(h:SI s i k [])(A:i<s.length)(G:char (aC ⟨s.toArray⟩ i).1=[32]):SI s (i+(aC ⟨s.toArray⟩ i).2) k []:=by
 obtain⟨_,N⟩:=SV s A;exact⟨N,sI,h.kl,by rw[h.eq,a2L A,c2c G]⟩
theorem SI.out{s i k w}(h:SI s i k w)(A:i<s.length)(O:char (aC ⟨s.toArray⟩ i).1=[32])(Q:w≠[]):(words s)[k]?=some w∧SI s (i+(aC ⟨s.toArray⟩ i).2) (k+1) []:=by
 obtain⟨_,Z⟩:=SV s A;have G:=h.eq;rw[a2L A,c4z O Q]at G;obtain⟨N,g2⟩:=drop_at G;exact⟨N,Z,sI,(bF.1 N).1,g2⟩
theorem SI.last{s i k w}(h:SI s i k w)(Q:¬i<s.length)(N:w≠[]):(words s)[k]?=some w∧k+1=(words s).length:=by
 have A:=h.eq;rw[a4j oM,b6y,zF N]at A;obtain⟨G,O⟩:=drop_at A;have:=zD List.length O;have:=(bF.1 G).1;simp at *;exact⟨G,oM⟩
theorem SI.RY{s i k}(h:SI s i k [])(G:¬i<s.length):k=(words s).length:=by
 have A:=h.eq;have:=h.kl;rw[a4j oM,b6y,zG rfl]at A;have:=zD List.length A;simp at this;omega
def total:List Bs→Nat
 |[]=>0
 |a::r=>a.length+total r
theorem a3P:∀(r:List Nat) (w:Bs),(wf w r).length≤r.length+1∧total (wf w r)≤w.length+4*r.length
 |[],w=>by
  unfold wf
  split
  ·exact⟨sI,by simp[total]⟩
  exact⟨sI,by simp[total]⟩
 |c::r,w=>by
  unfold wf;have h:=a3P r []
  split
  ·split
   ·simp only[aS,aX]at *;omega
   simp only[aS,aX,total]at *;omega
  have A:=a3P r (w++char c);have G:=a6b c;simp only[aS,bI]at *;omega
theorem VH:∀l:List Bs,(join l).length≤total l+l.length
 |[]=>by simp[join]
 |[a]=>by simp[join,total]
 |a::b::r=>by
  have:=VH (b::r);simp only[join,total,bI,aS,aX]at *;omega
theorem SQ s:(words s).length≤s.length+1∧(join (words s)).length≤5*s.length+1:=by
 have h:=a3P (runes s) [];have A:=VH (words s);have G:=a1r s.length s;unfold words at *;unfold runes at *;simp only[aX]at h;omega
theorem ZW s:∀w∈words s,w.length≤4*s.length:=by
 have h:∀(l:List Bs),∀w∈l,w.length≤total l:=by
  intro l
  induction l with
  |nil=>intro w A;cases A
  |cons a r G=>
   intro w A;rcases dH.1 A with rfl|A
   ·simp[total]
   have:=G w A;simp only[total];omega
 intro w A;have N:=(a3P (runes s) []).2;have O:=a1r s.length s;have Q:=h _ w A;unfold words runes at *;simp only[aX]at N;omega
theorem b1C:∀l:List Bs,Go.Lib.join l [32]=join l
 |[]=>rfl
 |[a]=>Go.Lib.join_one a [32]
 |a::b::r=>by
  have h:=b1C (b::r);rw[Go.Lib.join_cons]at h ⊢;show a++fV [32] (b::r)=a++[32]++join (b::r);rw[←h];simp[fV]
def a1I:Bs:=[48,49,50,51,52,53,54,55,56,57]
theorem a6v c:a1I.contains c=digit c:=by
 have h:∀n<256,a1I.contains (gK n)=digit (gK n):=by decide +kernel
 have:=h c.toNat c.toNat_lt
 rwa [UInt8.ofNat_toNat]at this
theorem a2X{p c}:∀{l:Bs},c∈l→p c=false→c∈l.dropWhile p
 |[],h,_=>by cases h
 |d::r,h,hp=>by
  rw[eG]
  split
  ·rename_i hd
   rcases dH.1 h with rfl|h
   ·rw[hp]at hd;cases hd
   exact a2X h hp
  exact h
theorem b0K{p}:∀{l:Bs},(∀c∈l,p c=true)→l.dropWhile p=[]
 |[],_=>rfl
 |d::r,h=>by rw[List.dropWhile_cons_of_pos (h d (.head _))];exact b0K fun c A=>h c (.tail _ A)
theorem a4T s:(gI s a1I == [])=digits s:=by
 unfold gI Go.Lib.trimLeftS Go.Lib.trimRightS digits;cases hd:s.all digit with
 |true=>
  have h:∀c∈s.reverse,a1I.contains c=true:=fun c A=>by rw[a6v];exact fK.1 hd c (dR.1 A)
  rw[b0K h];rfl
 |false=>
  obtain⟨c,A,hn⟩:∃c∈s,digit c=false:=by
   have:=List.all_eq_false.1 hd;obtain⟨c,A,hn⟩:=this;exact⟨c,A,by simpa using hn⟩
  have G:a1I.contains c=false:=by rw[a6v];exact hn
  have N:=a2X (p:=(a1I.contains ·)) (dR.2 (a2X (p:=(a1I.contains ·)) (dR.2 A) G)) G;rw[beq_eq_false_iff_ne];intro O;rw[O]at N;cases N
theorem dropLast_take(w:Bs):w.take (w.length-1)=w.dropLast:=by rw[List.dropLast_eq_take]
theorem a8o w:(strip w).length≤w.length+1:=by
 unfold strip;have h:∀(l:Bs) (p:UInt8→Bool),(l.dropWhile p).length≤l.length:=by
  intro l p
  induction l with
  |nil=>simp
  |cons a r A=>rw[eG];split<;>simp only[aS]<;>omega
 have:=h w.dropLast (· == 48);rw[bI,List.length_drop];rw[List.length_dropLast]at this;omega
theorem b1l w:(NG w).length≤w.length+3:=by
 have h:=a8o w;unfold NG
 split
 ·unfold number;simp only[bI,aS,aX];omega
 omega
theorem a5P s:(join ((words s).map NG)).length≤8*s.length+4:=by
 have h:=a3P (runes s) [];have N:=a1r s.length s;have A:=VH ((words s).map NG);have G:∀l:List Bs,total (l.map NG)≤total l+3*l.length:=by
  intro l
  induction l with
  |nil=>simp[total]
  |cons a r O=>
   have:=b1l a;simp only[bZ,total,aS];omega
 have Q:=G (words s);rw[dV]at A;unfold words runes at *;simp only[aX]at h;omega
end Ke
namespace Go.Proofs.YtdjkhllhakhjbaaGreatDoor
open Go Go.Sx
theorem b4w b l p g (hg:BM 0 1 l.length (EY l) g) I:yS aF 132 [ptr b 0] I (LK b l p g) (fun e N H'=>e= .returned (i64 l.length)∧H'=LK b l p g):=
 (yS.frame (gH 5 (EY l) g) (c4x b _ l.length g hg I)).mono fun _ _ _ _ ⟨H1,h,A,G⟩=>⟨A,by rw[h,G];rfl⟩
theorem a9n b x y R I:yS aF 134 [ptr b 0] I ((b,yZ 224 [x,y])::R) (fun e N H'=>e= .returned (.tuple #[])∧H'=LK b [] false none):=
 (yS.frame R (c1f b x y I)).drop fun _ _ _ ⟨H1,h,A,G⟩=>⟨_,by rw[h,G];exact List.sublist_append_left _ _,A,rfl⟩
structure WSt where
  i:Nat
  w:List UInt8
  p:Bool
  g:Gs
  k:Nat
  I:Heap
  H:HL
theorem a3u sb s (hs:s.length≤1000000000) I (A:I sb=some (yZ 9 [str s])):Gen aF 128 [] [ptr sb 0] I ((Ke.words s).map fun w=>[str w]):=by
 refine⟨dD gJ dE rfl,fun l Y Z O ak H ab=>?_⟩;refine yS.ob gJ ?_;intro w0 _;refine Cj.sr (aH rfl (EX rfl rfl rfl rfl rfl (b4W _) ?_ (fun _ _ _ _ ⟨_,h,_⟩=>by cases h) (fun _ _ ⟨_,h,_⟩=>by cases h)));intro _ I3 _ ad aw ax;have A:=ad _ _ A;obtain⟨tb,h,rfl⟩:=ax;cases h;have ab:=O _ _ _ _ ad ab;refine eX (aw _ (.head _)) (fun _ ae N=>?_);have A:=ae _ _ A;have ab:=O _ _ _ _ ae ab;refine aA yQ ?_;refine J.yX (aH rfl (CU Tryz.zeroValue224 ?_));intro b7 _;refine J.zX (aI (aA (yV BR (bQ A)) ?_));refine aH rfl (OH rfl rfl rfl rfl BU ?_);intro b8 _;refine J.ns (bC (Cj.loop (ι:=WSt) (fun j=>Ke.SI s j.i j.k j.w∧BM 0 1 j.w.length (EY j.w) j.g∧(Tab j.I tb∧j.I sb=some (yZ 9 [str s]))∧Y j.k j.I j.H) (fun j=>s.length-j.i) (fun j=>[(0,.func (.yield l) #[] #[]),(3,.map (some tb)),(4,ptr b7 0),(10,ptr b8 0)]) (fun j=>j.I) (fun j=>(b8,.stringIter ⟨s.toArray⟩ j.i)::(LK b7 j.w j.p j.g++j.H)) ⟨0,[],false,none,0,_,H⟩ ⟨Ke.SI.start s,⟨rfl,rfl⟩,⟨N,A⟩,ab⟩ rT rfl rfl ?_));rintro⟨i,w,p,g,k,I,H⟩ ⟨hw,hg,⟨N,A⟩,Q⟩;dsimp only at hw hg N A Q ⊢;have b1:=hw.wl;have b2:=hw.le;rcases Nat.lt_or_ge i s.length with hp|hp
 ·have hd:=fU s hp;have ay:=Ke.decode_le s i;refine Cj.sr (aH rfl (XV 0 rfl rfl rfl rfl rfl (by rw[size_mk];omega) bG ?_));refine aA AZ ?_;refine J.nss (aQ rfl (fun al=>?_) (fun al=>aB (aP (aT rfl) al)));refine Cj.ks (bC (Cj.sr (aA AZ ?_)));refine aA yQ ?_;refine J.yX (aA yP ?_);refine aA yP ?_;refine aH rfl (yU rfl rfl rfl rfl rfl (c2M _ tb ay _ N) ?_);refine aA yQ ?_;refine J.zX (aI (aA yP ?_));refine aA (KC rfl rfl rfl) ?_;refine J.cd (fun a0=>?_) (fun a0=>?_)
  ·have ai:=bne_iff_ne.1 a0;have hc:aU (aC ⟨s.toArray⟩ i).1≠[32]:=bne_iff_ne.1 a0;refine Cj.sr (aA yP ?_);refine bP (H':=LK _ _ _ _++(_::_)) aK ?_;refine aH rfl (yT (H1:=LK _ _ _ _) (R:=_::_) rfl rfl rfl rfl rfl (a7R _ w (aU (aC ⟨s.toArray⟩ i).1) p g hg oM (by have:=Ke.a6b (aC ⟨s.toArray⟩ i).1;omega) _) ?_ (fun _ _ _ _ h=>by cases h.1) (fun _ _ h=>by cases h.1));intro _ _ _ a4 an;have A:=a4 _ _ A;have N:=N.mono a4;obtain⟨h,g2,az,rfl⟩:=an;cases h;have Q:=O _ _ _ _ a4 Q;refine bP (H':=_::(_++_)) aK.symm ?_;refine J.ns (fZ (dA (dZ (eF ⟨i+(aC ⟨s.toArray⟩ i).2,w++aU (aC ⟨s.toArray⟩ i).1,true,g2,k,_,H⟩ ⟨hw.in hp hc,az,⟨N,A⟩,Q⟩ dO rT rfl rfl))))
  have ai:=DI a0;have hc:aU (aC ⟨s.toArray⟩ i).1=[32]:=by have h:=a0;simpa using h
  refine Cj.ks (aV (Cj.sr (bP (H':=LK _ _ _ _++(_::_)) aK ?_)));refine aH rfl (yT (H1:=LK _ _ _ _) (R:=_::_) rfl rfl rfl rfl rfl (b4w _ w p g hg _) ?_ (fun _ _ _ _ h=>by cases h.1) (fun _ _ h=>by cases h.1));intro _ _ _ a5 ao;have A:=a5 _ _ A;have N:=N.mono a5;obtain⟨h,rfl⟩:=ao;cases h;have Q:=O _ _ _ _ a5 Q;refine bP (H':=_::(_++_)) aK.symm ?_;refine aA (NV rfl rfl rfl) ?_;refine aA yP ?_;refine J.split 23 rfl (fun G=>?_) (fun G=>?_)
  rotate_left
  ·obtain rfl:w=[]:=bW.1 (by have:=BJ G;omega);refine AP 2 23 24 true G ?_;refine AP 2 23 25 true G ?_;refine AP 2 23 26 true G ?_;refine AP 2 23 27 true G ?_;refine aA (ED G) ?_;refine J.c0 (fun _=>?_);refine Cj.ks (aI (bP (H':=LK _ _ _ _++(_::_)) aK ?_));refine aH rfl (yT (H1:=LK _ _ _ _) (R:=_::_) rfl rfl rfl rfl rfl (a9n _ _ _ _ _) ?_ (fun _ _ _ _ h=>by cases h.1) (fun _ _ h=>by cases h.1));intro _ _ _ a6 ap;have A:=a6 _ _ A;have N:=N.mono a6;obtain⟨h,rfl⟩:=ap;cases h;have Q:=O _ _ _ _ a6 Q;refine bP (H':=_::(_++_)) aK.symm ?_;refine bV (dQ (eF ⟨i+(aC ⟨s.toArray⟩ i).2,[],false,none,k,_,H⟩ ⟨hw.c5t hp hc,⟨rfl,rfl⟩,⟨N,A⟩,Q⟩ dO rT rfl rfl))

  have a1:w≠[]:=fun h=>by have:=BH G;rw[h]at this;simp at this
  refine zU 2 23 true G (zK yP ?_);refine bP (H':=LK _ _ _ _++(_::_)) aK ?_;refine J.KY 2 23 true _ rfl rfl rfl G (yT (H1:=LK _ _ _ _) (R:=_::_) rfl rfl rfl rfl rfl (a4r _ w p g hg (fun h=>absurd h a1) oM _) ?_ (fun _ _ _ _ h=>by cases h.1) (fun _ _ h=>by cases h.1));intro _ _ _ a7 aq;have A:=a7 _ _ A;have N:=N.mono a7;obtain⟨h,y0,z0,rfl⟩:=aq;cases h;have Q:=O _ _ _ _ a7 Q;refine bP (H':=_::(_++_)) aK.symm ?_;refine J.c4S [_,_] 2 23 true _ rfl rfl rfl G rfl rfl rfl rfl rfl (ak k [str w] (by rw[fH,(hw.out hp hc a1).1];rfl) _ H Q) ?_ (fun _ _ _ h=>by rcases h with⟨h,_⟩|⟨h,_⟩<;>cases h) (fun _ _ h=>by rcases h with⟨h,_⟩|⟨h,_⟩<;>cases h);intro v3 I3 H3 a2 af;have A:=a2 _ _ A;have N:=N.mono a2;obtain⟨_,h3,am⟩:∃t:Bool,v3= .bool t∧((t=true∧Y (k+1) I3 H3)∨(t=false∧Z I3 H3)):=by
   rcases af with⟨h,h2⟩|⟨h,h2⟩
   ·cases h;exact⟨true,rfl,.inl ⟨rfl,h2⟩⟩
   cases h;exact⟨false,rfl,.inr ⟨rfl,h2⟩⟩
  subst h3;refine zU 2 23 true G (zK (ER rfl rfl) ?_);refine aA (EO G) ?_;refine J.cd (fun ac=>?_) (fun ac=>?_)
  ·have b0:Z I3 H3:=by
    rcases am with⟨rfl,_⟩|⟨_,h⟩
    ·exact aB ac
    exact h
   refine Cj.rs (aW (Ej.NC (aW (aY (bU (H':=H3) (bJ _ (bJ _ (fJ _))) ?_)))));exact Ej.b0V rfl rfl ⟨rfl,.inr b0⟩
  have ag:Y (k+1) I3 H3:=by
   rcases am with⟨_,h⟩|⟨rfl,_⟩
   ·exact h
   exact aB ac
  refine Cj.ks (aI (bP (H':=[_]++(_::_)) aK ?_));refine aH rfl (yT (H1:=[_]) (R:=_::_) rfl rfl rfl rfl rfl (a9n _ _ _ _ _) ?_ (fun _ _ _ _ h=>by cases h.1) (fun _ _ h=>by cases h.1));intro _ _ _ a8 ar;have A:=a8 _ _ A;have N:=N.mono a8;obtain⟨h,rfl⟩:=ar;cases h;have ag:=O _ _ _ _ a8 ag;refine bP (H':=_::(_++_)) aK.symm ?_;refine bV (dQ (eF ⟨i+(aC ⟨s.toArray⟩ i).2,[],false,none,k+1,_,H3⟩ ⟨(hw.out hp hc a1).2,⟨rfl,rfl⟩,⟨N,A⟩,ag⟩ dO rT rfl rfl))
 refine Cj.sr (aH rfl (TL 0 rfl rfl rfl rfl rfl (by rw[size_mk];omega) ?_));refine aA AZ ?_;refine J.nss (aQ rfl (fun ah=>aB (aP (aT rfl) ah)) (fun ah=>?_));refine Cj.xl (Cj.sr (bP (H':=LK _ _ _ _++(_::_)) aK ?_));refine aH rfl (yT (H1:=LK _ _ _ _) (R:=_::_) rfl rfl rfl rfl rfl (b4w _ w p g hg _) ?_ (fun _ _ _ _ h=>by cases h.1) (fun _ _ h=>by cases h.1));intro _ _ _ a9 au;have A:=a9 _ _ A;have N:=N.mono a9;obtain⟨h,rfl⟩:=au;cases h;have Q:=O _ _ _ _ a9 Q;refine bP (H':=_::(_++_)) aK.symm ?_;refine aA (NV rfl rfl rfl) ?_;refine J.cd (fun a3=>?_) (fun a3=>?_)
 ·have aj:=BH a3;have a1:w≠[]:=fun h=>by have:=BH a3;rw[h]at this;simp at this
  refine aI (aA yP ?_);refine bP (H':=LK _ _ _ _++(_::_)) aK ?_;refine aH rfl (yT (H1:=LK _ _ _ _) (R:=_::_) rfl rfl rfl rfl rfl (a4r _ w p g hg (fun h=>absurd h a1) oM _) ?_ (fun _ _ _ _ h=>by cases h.1) (fun _ _ h=>by cases h.1));intro _ _ _ aa av;have A:=aa _ _ A;have N:=N.mono aa;obtain⟨h,y0,z0,rfl⟩:=av;cases h;have Q:=O _ _ _ _ aa Q;refine bP (H':=_::(_++_)) aK.symm ?_;refine J.yield [_,_] rfl rfl rfl rfl rfl rfl (ak k [str w] (by rw[fH,(hw.last oM a1).1];rfl) _ H Q) ?_ (fun _ _ _ h=>by rcases h with⟨h,_⟩|⟨h,_⟩<;>cases h) (fun _ _ h=>by rcases h with⟨h,_⟩|⟨h,_⟩<;>cases h);intro v3 I3 H3 a2 af;have A:=a2 _ _ A;have N:=N.mono a2;refine bV (bU (H':=H3) (bJ _ (bJ _ (fJ _))) ?_);refine Ej.RY rfl rfl ⟨rfl,?_⟩;rcases af with⟨_,h2⟩|⟨_,h2⟩
  ·refine .inl ?_;rw[dV,←(hw.last oM a1).2];exact h2
  exact .inr h2
 have aj:=BJ a3;obtain rfl:w=[]:=bW.1 (by have:=BJ a3;omega);refine Cj.skip (bU (H':=H) (bJ _ (List.sublist_append_right _ _)) ?_);refine Ej.RY rfl rfl ⟨rfl,.inl ?_⟩;rw[dV,←hw.RY oM];exact Q
