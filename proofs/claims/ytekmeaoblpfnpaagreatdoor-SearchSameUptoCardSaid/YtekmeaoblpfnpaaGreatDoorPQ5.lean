/-
  Own texts on the laws of the seat, joined: the logic, and contracts of functions. Conditions: none.
-/
import Derived.Test.YtekmeaoblpfnpaaGreatDoorNmQ
import Derived.Test.YtekmeaoblpfnpaaGreatDoorPQ4
import Derived.Lib.Join
import Derived.Lib.SlTrimSet
import Derived.Shelf.Strings.SlTrimAscii
import Derived.Lib.SlicesCompact
set_option linter.all false
set_option maxRecDepth 100000
set_option maxHeartbeats 40000000
open Go.Utf8 renaming decode -> aA,encode -> aG,valid -> eH
open Ke renaming norm -> aB,okb -> aK,digits -> bD,strip -> bK,check -> bM,a3M -> bP,words -> bU,a1l -> cO,val -> dB,JL -> dD,a1J -> dF,join -> dU,YR -> dW,rep -> gQ,NQ -> iI,char -> iP,digit -> jE,b1w -> jF
open List renaming mem_cons -> aC,getElem?_eq_some_iff -> aF,pairwise_cons -> aI,perm_middle -> aJ,length_append -> aN,length_cons -> aO,take_succ_eq_append_getElem -> aP,mem_filter -> aS,length_take -> aU,length_map -> aV,all_eq_true -> aZ,one_le_count_iff -> bF,length_nil -> bH,nil_sublist -> bI,take_length -> bQ,take_of_length_le -> bV,mem_map -> cZ,drop_zero -> dH,length_eq_zero_iff -> dI,getElem?_map -> dK,length_filter_le -> dM,takeWhile_prefix -> dN,take_append_of_le_length -> dR,map_congr_left -> dS,map_cons -> dY,takeWhile_cons_of_pos -> dZ,pairwise_map -> eF,mem_of_find?_eq_some -> eP,mem_reverse -> eU,length_drop -> eX,any_eq_true -> eY,map_append -> fA,append_nil -> fB,length -> fD,lt_irrefl -> fJ,getElem?_eq_none -> fK,mem_of_mem_take -> fP,sum_cons -> fU,dropWhile_cons -> fV,take_succ_cons -> fZ,map_map -> gG,all_takeWhile -> gK,append_assoc -> iD,mem_flatMap -> iG,find?_some -> iM,drop_drop -> iT,all_cons -> iY,lt_trans -> iZ
open Go.Proofs.Tryz renaming prog -> aH,func127 -> jB
open UInt8 renaming ofNat -> aQ,ofNat_toNat -> dJ,toNat_inj -> iL
open Bool renaming noConfusion -> aT,and_eq_true -> bC,eq_iff_iff -> iO
open Go.Sx.J renaming ev -> aW,perm -> bY,op -> dA,z -> dG,persist -> iU
open Nat renaming one_le_iff_ne_zero -> aX,zero_le -> bG,lt_or_ge -> bJ,min_eq_left -> dQ,mul_le_mul -> dV,le_of_ble_eq_true -> fF,zero_add -> gI
open Go.Lib renaming indexByte -> aY,trimS -> gB,joinTail -> iH,validRune -> iW,join -> jG
open Int renaming natCast_mul -> bT
open List.Sublist renaming cons -> bW,refl -> gZ
open Go.Sx.Ej renaming keep -> bZ,round -> dL,b6n -> iF
open Go.Sx.Pure renaming of_same -> dP,of_below -> fQ
open Go.Value renaming int -> dX
open Go.Sx.yZ renaming toPure -> eG
open Go.Ending renaming returned -> fC
open Go.Sx.Cj renaming loop -> fE,AL -> fM,cond -> gX
open Go.Sx.Keeps renaming k -> fG,d -> fH,r -> iQ
open Eq renaming trans -> fO,symm -> gY
open Go.IntKind renaming wrap -> gJ,signed -> iR,bits -> jD,u8 -> jI
open Go.Sx.JA renaming ev -> gU,zt -> gW
open Go.Instr renaming sliceBounds -> iC,sliceAt -> jA,slice -> jH
open List.Pairwise renaming nil -> iE
open Go.Sx.yX renaming z -> iJ
open Go.Sx.Pull renaming z -> iK,s -> jC
open Go.Sx.Src renaming slice -> iV
namespace Ke
theorem ZO c:(enc c).length≤4:=by grind [enc]
theorem EY:tab.all (fun p=>decide (p.2.length≤4))=true:=by decide +kernel
theorem a3K:∀{l:List (Nat×Bs)} {c:Nat} {s:Bs},l.lookup c=some s→∃p∈l,p.2=s
 |[],_,_,h=>by cases h
 |(a,b)::r,c,s,h=>by
  rw[List.lookup_cons]at h
  split at h
  ·cases h;exact⟨_,.head _,rfl⟩
  obtain⟨p,h1,h2⟩:=a3K h;exact⟨p,.tail _ h1,h2⟩
theorem a3f c:(char c).length≤4:=by
 unfold char
 split
 ·exact ZO c
 split
 ·exact ZO _
 split
 ·simp
 split
 ·simp
 split
 ·rename_i s N
  obtain⟨p,h1,rfl⟩:=a3K N;exact zA (aZ.1 EY p h1)
 split
 ·exact ZO _
 split
 ·exact ZO _
 split
 ·exact ZO _
 simp
theorem b3a w:wf w []=if w=[]then[]else[w]:=rfl
theorem c0F{c}(h:char c≠[32]) w r:wf w (c::r)=wf (w++char c) r:=by
 show(if char c=[32]then _ else _)=_;rw[zD h]
theorem c0c{c}(h:char c=[32]){w}(N:w≠[]) r:wf w (c::r)=w::wf [] r:=by
 show(if char c=[32]then(if w=[]then _ else _)else _)=_;rw[zF h,zD N]
theorem b8L{c}(h:char c=[32]) r:wf [] (c::r)=wf [] r:=by
 show(if char c=[32]then(if ([]:Bs)=[]then _ else _)else _)=_;rw[zF h,zF rfl]
theorem drop_at{α:Type}{l:List α}{k x r}(h:l.drop k=x::r):l[k]?=some x∧l.drop (k+1)=r:=by
 have h1:=zC List.head? h;have h2:=zC List.tail h;rw[List.head?_drop]at h1;rw[List.tail_drop]at h2;exact⟨h1,h2⟩
structure NP (s:Bs) (i k:Nat) (w:Bs):Prop where
  le:i≤s.length
  wl:w.length≤4*i
  kl:k≤(words s).length
  eq:(words s).drop k=wf w (runes (s.drop i))
theorem NP.start s:NP s 0 0 []:=⟨bG _,bG _,bG _,rfl⟩
theorem NP.in{s i k w}(h:NP s i k w)(N:i<s.length)(O:char (aA ⟨s.toArray⟩ i).1≠[32]):NP s (i+(aA ⟨s.toArray⟩ i).2) k (w++char (aA ⟨s.toArray⟩ i).1):=by
 obtain⟨h1,h2⟩:=NQ s N;refine⟨h2,?_,h.kl,by rw[h.eq,a0E N,c0F O]⟩;have:=a3f (aA ⟨s.toArray⟩ i).1;have:=h.wl;rw[aN];omega
theorem NP.c0W{s i k}(h:NP s i k [])(N:i<s.length)(O:char (aA ⟨s.toArray⟩ i).1=[32]):NP s (i+(aA ⟨s.toArray⟩ i).2) k []:=by
 obtain⟨h1,h2⟩:=NQ s N;exact⟨h2,sI,h.kl,by rw[h.eq,a0E N,b8L O]⟩
theorem NP.out{s i k w}(h:NP s i k w)(N:i<s.length)(Z:char (aA ⟨s.toArray⟩ i).1=[32])(hw:w≠[]):(words s)[k]?=some w∧NP s (i+(aA ⟨s.toArray⟩ i).2) (k+1) []:=by
 obtain⟨h1,h2⟩:=NQ s N;have O:=h.eq;rw[a0E N,c0c Z hw]at O;obtain⟨W,g2⟩:=drop_at O;exact⟨W,h2,sI,(aF.1 W).1,g2⟩
theorem NP.last{s i k w}(h:NP s i k w)(hi:¬i<s.length)(W:w≠[]):(words s)[k]?=some w∧k+1=(words s).length:=by
 have N:=h.eq;rw[a1e oM,b3a,zD W]at N;obtain⟨O,Z⟩:=drop_at N;have:=zC fD Z;have:=(aF.1 O).1;simp at *;exact⟨O,oM⟩
theorem NP.GY{s i k}(h:NP s i k [])(O:¬i<s.length):k=(words s).length:=by
 have N:=h.eq;have:=h.kl;rw[a1e oM,b3a,zF rfl]at N;have:=zC fD N;simp at this;omega
def total:List Bs→Nat
 |[]=>0
 |a::r=>a.length+total r
theorem a1E:∀(r:List Nat) (w:Bs),(wf w r).length≤r.length+1∧total (wf w r)≤w.length+4*r.length
 |[],w=>by
  unfold wf
  split
  ·exact⟨sI,by simp[total]⟩
  exact⟨sI,by simp[total]⟩
 |c::r,w=>by
  unfold wf;have h0:=a1E r []
  split
  ·split
   ·simp only[aO,bH]at *;omega
   simp only[aO,bH,total]at *;omega
  have h1:=a1E r (w++char c);have h2:=a3f c;simp only[aO,aN]at *;omega
theorem PK:∀l:List Bs,(join l).length≤total l+l.length
 |[]=>by simp[join]
 |[a]=>by simp[join,total]
 |a::b::r=>by
  have:=PK (b::r);simp only[join,total,aN,aO,bH]at *;omega
theorem KD s:(words s).length≤s.length+1∧(join (words s)).length≤5*s.length+1:=by grind [words,runes,bH,a1E,PK,YK]
theorem a0P s:∀w∈words s,w.length≤4*s.length:=by
 have h:∀(l:List Bs),∀w∈l,w.length≤total l:=by
  intro l
  induction l with
  |nil=>intro w N;cases N
  |cons a r O=>
   intro w N;rcases aC.1 N with rfl|N
   ·simp[total]
   have:=O w N;simp only[total];omega
 intro w N;have h1:=(a1E (runes s) []).2;have h3:=YK s.length s;have W:=h _ w N;unfold words runes at *;simp only[bH]at h1;omega
theorem a8t:∀l:List Bs,jG l [32]=join l
 |[]=>rfl
 |[a]=>Go.Lib.join_one a [32]
 |a::b::r=>by
  have h:=a8t (b::r);rw[Go.Lib.join_cons]at h ⊢;show a++iH [32] (b::r)=a++[32]++join (b::r);rw[←h];simp[iH]
def YT:Bs:=[48,49,50,51,52,53,54,55,56,57]
theorem a4h c:YT.contains c=digit c:=by
 have h:∀n<256,YT.contains (aQ n)=digit (aQ n):=by decide +kernel
 have:=h c.toNat c.toNat_lt
 rwa [dJ]at this
theorem a0Q{p c}:∀{l:Bs},c∈l→p c=false→c∈l.dropWhile p
 |[],h,_=>by cases h
 |d::r,h,hp=>by
  rw[fV]
  split
  ·rename_i N
   rcases aC.1 h with rfl|h
   ·rw[hp]at N;cases N
   exact a0Q h hp
  exact h
theorem a7j{p}:∀{l:Bs},(∀c∈l,p c=true)→l.dropWhile p=[]
 |[],_=>rfl
 |d::r,h=>by rw[List.dropWhile_cons_of_pos (h d (.head _))];exact a7j fun c N=>h c (.tail _ N)
theorem a2U s:(gB s YT == [])=digits s:=by
 unfold gB Go.Lib.trimLeftS Go.Lib.trimRightS digits;cases hd:s.all digit with
 |true=>
  have h:∀c∈s.reverse,YT.contains c=true:=fun c N=>by rw[a4h];exact aZ.1 hd c (eU.1 N)
  rw[a7j h];rfl
 |false=>
  obtain⟨c,N,O⟩:∃c∈s,digit c=false:=by
   have:=List.all_eq_false.1 hd;obtain⟨c,N,O⟩:=this;exact⟨c,N,by simpa using O⟩
  have h1:YT.contains c=false:=by rw[a4h];exact O
  have h2:=a0Q (p:=(YT.contains ·)) (eU.2 (a0Q (p:=(YT.contains ·)) (eU.2 N) h1)) h1;rw[beq_eq_false_iff_ne];intro W;rw[W]at h2;cases h2
theorem dropLast_take(w:Bs):w.take (w.length-1)=w.dropLast:=by rw[List.dropLast_eq_take]
theorem a6e w:(strip w).length≤w.length+1:=by
 unfold strip;have h:∀(l:Bs) (p:UInt8→Bool),(l.dropWhile p).length≤l.length:=by
  intro l p
  induction l with
  |nil=>simp
  |cons a r N=>rw[fV];split<;>simp only[aO]<;>omega
 have:=h w.dropLast (· == 48);rw[aN,eX];rw[List.length_dropLast]at this;omega
theorem a7u w:(JL w).length≤w.length+3:=by grind [JL,number,aN,aO,bH,a6e]
theorem a7h s:(join ((words s).map JL)).length≤8*s.length+4:=by
 have h1:=a1E (runes s) [];have h3:=YK s.length s;have h2:=PK ((words s).map JL);have N:∀l:List Bs,total (l.map JL)≤total l+3*l.length:=by
  intro l
  induction l with
  |nil=>simp[total]
  |cons a r O=>
   have:=a7u a;simp only[dY,total,aO];omega
 have W:=N (words s);rw[aV]at h2;unfold words runes at *;simp only[bH]at h1;omega
end Ke
section
namespace Go.Proofs.YtekmeaoblpfnpaaGreatDoor
open Go Go.Sx
theorem b0v b l p g (N:BO 0 1 l.length (CY l) g) I:yZ aH 131 [ptr b 0] I (EP b l p g) (fun e O H'=>e= .returned (i64 l.length)∧H'=EP b l p g):=
 (yZ.frame (gH 5 (CY l) g) (b9V b _ l.length g N I)).mono fun _ _ _ _ ⟨H1,h1,h2,h3⟩=>⟨h2,by rw[h1,h3];rfl⟩
theorem a5w b x y R I:yZ aH 133 [ptr b 0] I ((b,zJ 204 [x,y])::R) (fun e N H'=>e= .returned (.tuple #[])∧H'=EP b [] false none):=
 (yZ.frame R (b6I b x y I)).drop fun _ _ _ ⟨H1,h1,h2,h3⟩=>⟨_,by rw[h1,h3];exact List.sublist_append_left _ _,h2,rfl⟩
structure WSt where
  i:Nat
  w:List UInt8
  p:Bool
  g:Gs
  k:Nat
  I:Heap
  H:HL
theorem a6n sb s (hs:s.length≤1000000000) I (N:I sb=some (zJ 9 [str s])):Gen aH 127 [] [ptr sb 0] I ((bU s).map fun w=>[str w]):=by
 refine⟨Enters.of jB dE rfl,fun l Y Z W al H aa=>?_⟩;refine zT jB fun w0 _=>?_;refine PY (b1B _) ?_;intro _ I3 _ ae aw ax;have N:=ae _ _ N;obtain⟨tb,h,rfl⟩:=ax;cases h;have aa:=W _ _ _ _ ae aa;refine iU (aw _ (.head _)) (fun _ af O=>?_);have N:=af _ _ N;have aa:=W _ _ _ _ af aa;refine yU 6 ?_;intro b7 _;refine yU 6 ?_;refine dA rfl (a0k rfl rfl rfl rfl DC ?_);intro b8 _;refine yU 3 ?_;refine fE (ι:=WSt) (fun j=>Ke.NP s j.i j.k j.w∧BO 0 1 j.w.length (CY j.w) j.g∧(Tab j.I tb∧j.I sb=some (zJ 9 [str s]))∧Y j.k j.I j.H) (fun j=>s.length-j.i) (fun j=>[(0,.func (.yield l) #[] #[]),(3,.map (some tb)),(4,ptr b7 0),(10,ptr b8 0)]) (fun j=>j.I) (fun j=>(b8,.stringIter ⟨s.toArray⟩ j.i)::(EP b7 j.w j.p j.g++j.H)) ⟨0,[],false,none,0,_,H⟩ ⟨Ke.NP.start s,⟨rfl,rfl⟩,⟨O,N⟩,aa⟩ rT rfl rfl ?_;rintro⟨i,w,p,g,k,I,H⟩ ⟨hw,hg,⟨O,N⟩,hY⟩;dsimp only at hw hg O N hY ⊢;have b1:=hw.wl;have b2:=hw.le;rcases bJ i s.length with hp|hp
 ·have hd:=iI s hp;have ay:=Ke.decode_le s i;refine yU 2 ?_;refine dA rfl (a2k 0 rfl rfl rfl rfl rfl (by rw[size_mk];omega) iJ ?_);refine BF (NU _ tb ay _ O) ?_;refine AP ?_ ?_<;>intro ab ai
  ·have hc:iP (aA ⟨s.toArray⟩ i).1≠[32]:=bne_iff_ne.1 ab;refine yU 3 ?_;refine bY (H':=EP _ _ _ _++(_::_)) aJ ?_;refine dA rfl (zM (H1:=EP _ _ _ _) (R:=_::_) rfl rfl rfl rfl rfl (IB _ w (iP (aA ⟨s.toArray⟩ i).1) p g hg oM (by have:=Ke.a3f (aA ⟨s.toArray⟩ i).1;omega) _) ?_ (fun _ _ _ _ h=>by cases h.1) (fun _ _ h=>by cases h.1));intro _ _ _ a3 an;have N:=a3 _ _ N;have O:=O.mono a3;obtain⟨h,g2,az,rfl⟩:=an;cases h;have hY:=W _ _ _ _ a3 hY;refine bY (H':=_::(_++_)) aJ.symm ?_;refine yU 5 ?_;refine dL ⟨i+(aA ⟨s.toArray⟩ i).2,w++iP (aA ⟨s.toArray⟩ i).1,true,g2,k,_,H⟩ ⟨hw.in hp hc,az,⟨O,N⟩,hY⟩ dO rT rfl rfl
  have hc:iP (aA ⟨s.toArray⟩ i).1=[32]:=by have h:=ab;simpa using h
  refine yU 5 ?_;refine bY (H':=EP _ _ _ _++(_::_)) aJ ?_;refine dA rfl (zM (H1:=EP _ _ _ _) (R:=_::_) rfl rfl rfl rfl rfl (b0v _ w p g hg _) ?_ (fun _ _ _ _ h=>by cases h.1) (fun _ _ h=>by cases h.1));intro _ _ _ a4 ao;have N:=a4 _ _ N;have O:=O.mono a4;obtain⟨h,rfl⟩:=ao;cases h;have hY:=W _ _ _ _ a4 hY;refine bY (H':=_::(_++_)) aJ.symm ?_;refine TV ?_ ?_<;>intro a0
  ·have a1:w≠[]:=fun h=>by have:=FZ a0;rw[h]at this;simp at this
   refine yU 1 ?_;refine bY (H':=EP _ _ _ _++(_::_)) aJ ?_;refine J.XQ 2 23 true _ rfl rfl rfl a0 (zM (H1:=EP _ _ _ _) (R:=_::_) rfl rfl rfl rfl rfl (a1Q _ w p g hg (fun h=>absurd h a1) oM _) ?_ (fun _ _ _ _ h=>by cases h.1) (fun _ _ h=>by cases h.1));intro _ _ _ a5 ap;have N:=a5 _ _ N;have O:=O.mono a5;obtain⟨h,y0,z0,rfl⟩:=ap;cases h;have hY:=W _ _ _ _ a5 hY;refine bY (H':=_::(_++_)) aJ.symm ?_;refine J.b9Z [_,_] 2 23 true _ rfl rfl rfl a0 rfl rfl rfl rfl rfl (al k [str w] (by rw[dK,(hw.out hp hc a1).1];rfl) _ H hY) ?_ (fun _ _ _ h=>by rcases h with⟨h,_⟩|⟨h,_⟩<;>cases h) (fun _ _ h=>by rcases h with⟨h,_⟩|⟨h,_⟩<;>cases h);intro v3 I3 H3 a2 ag;have N:=a2 _ _ N;have O:=O.mono a2;obtain⟨_,h3,am⟩:∃t:Bool,v3= .bool t∧((t=true∧Y (k+1) I3 H3)∨(t=false∧Z I3 H3)):=by
    rcases ag with⟨h,h2⟩|⟨h,h2⟩
    ·cases h;exact⟨true,rfl,.inl ⟨rfl,h2⟩⟩
    cases h;exact⟨false,rfl,.inr ⟨rfl,h2⟩⟩
   subst h3;refine FV ?_ ?_<;>intro ac
   ·have b0:Z I3 H3:=by
     rcases am with⟨rfl,_⟩|⟨_,h⟩
     ·exact aT ac
     exact h
    refine yU 6 ?_;refine bZ (H':=H3) (bW _ (bW _ (gZ _))) ?_;exact Ej.a3e rfl rfl ⟨rfl,.inr b0⟩
   have ah:Y (k+1) I3 H3:=by
    rcases am with⟨_,h⟩|⟨rfl,_⟩
    ·exact h
    exact aT ac
   refine yU 3 ?_;refine bY (H':=[_]++(_::_)) aJ ?_;refine dA rfl (zM (H1:=[_]) (R:=_::_) rfl rfl rfl rfl rfl (a5w _ _ _ _ _) ?_ (fun _ _ _ _ h=>by cases h.1) (fun _ _ h=>by cases h.1));intro _ _ _ a6 aq;have N:=a6 _ _ N;have O:=O.mono a6;obtain⟨h,rfl⟩:=aq;cases h;have ah:=W _ _ _ _ a6 ah;refine bY (H':=_::(_++_)) aJ.symm ?_;refine yU 2 ?_;refine dL ⟨i+(aA ⟨s.toArray⟩ i).2,[],false,none,k+1,_,H3⟩ ⟨(hw.out hp hc a1).2,⟨rfl,rfl⟩,⟨O,N⟩,ah⟩ dO rT rfl rfl
  obtain rfl:w=[]:=dI.1 (by have:=LY a0;omega);refine yU 11 ?_;refine bY (H':=EP _ _ _ _++(_::_)) aJ ?_;refine dA rfl (zM (H1:=EP _ _ _ _) (R:=_::_) rfl rfl rfl rfl rfl (a5w _ _ _ _ _) ?_ (fun _ _ _ _ h=>by cases h.1) (fun _ _ h=>by cases h.1));intro _ _ _ a7 ar;have N:=a7 _ _ N;have O:=O.mono a7;obtain⟨h,rfl⟩:=ar;cases h;have hY:=W _ _ _ _ a7 hY;refine bY (H':=_::(_++_)) aJ.symm ?_;refine yU 2 ?_;refine dL ⟨i+(aA ⟨s.toArray⟩ i).2,[],false,none,k,_,H⟩ ⟨hw.c0W hp hc,⟨rfl,rfl⟩,⟨O,N⟩,hY⟩ dO rT rfl rfl

 refine yU 2 ?_;refine dA rfl (VG 0 rfl rfl rfl rfl rfl (by rw[size_mk];omega) ?_);refine yU 12 ?_;refine bY (H':=EP _ _ _ _++(_::_)) aJ ?_;refine dA rfl (zM (H1:=EP _ _ _ _) (R:=_::_) rfl rfl rfl rfl rfl (b0v _ w p g hg _) ?_ (fun _ _ _ _ h=>by cases h.1) (fun _ _ h=>by cases h.1));intro _ _ _ a8 au;have N:=a8 _ _ N;have O:=O.mono a8;obtain⟨h,rfl⟩:=au;cases h;have hY:=W _ _ _ _ a8 hY;refine bY (H':=_::(_++_)) aJ.symm ?_;refine AP ?_ ?_<;>intro ad aj
 ·have a1:w≠[]:=fun h=>by have:=FZ ad;rw[h]at this;simp at this
  refine yU 2 ?_;refine bY (H':=EP _ _ _ _++(_::_)) aJ ?_;refine dA rfl (zM (H1:=EP _ _ _ _) (R:=_::_) rfl rfl rfl rfl rfl (a1Q _ w p g hg (fun h=>absurd h a1) oM _) ?_ (fun _ _ _ _ h=>by cases h.1) (fun _ _ h=>by cases h.1));intro _ _ _ a9 av;have N:=a9 _ _ N;have O:=O.mono a9;obtain⟨h,y0,z0,rfl⟩:=av;cases h;have hY:=W _ _ _ _ a9 hY;refine bY (H':=_::(_++_)) aJ.symm ?_;refine J.yield [_,_] rfl rfl rfl rfl rfl rfl (al k [str w] (by rw[dK,(hw.last oM a1).1];rfl) _ H hY) ?_ (fun _ _ _ h=>by rcases h with⟨h,_⟩|⟨h,_⟩<;>cases h) (fun _ _ h=>by rcases h with⟨h,_⟩|⟨h,_⟩<;>cases h);intro v3 I3 H3 a2 ag;have N:=a2 _ _ N;have O:=O.mono a2;refine yU 1 ?_;refine bZ (H':=H3) (bW _ (bW _ (gZ _))) ?_;refine Ej.GY rfl rfl ⟨rfl,?_⟩;rcases ag with⟨_,h2⟩|⟨_,h2⟩
  ·refine .inl ?_;rw[aV,←(hw.last oM a1).2];exact h2
  exact .inr h2
 obtain rfl:w=[]:=dI.1 (by have:=LY ad;omega);refine yU 1 ?_;refine bZ (H':=H) (bW _ (List.sublist_append_right _ _)) ?_;refine Ej.GY rfl rfl ⟨rfl,.inl ?_⟩;rw[aV,←hw.GY oM];exact hY
end Go.Proofs.YtekmeaoblpfnpaaGreatDoor
end
section
namespace Go.Proofs.YtekmeaoblpfnpaaGreatDoor
open _root_.Go.Proofs.Tryz
open Go Go.Sx
theorem a4W l v (hl:l.length≤1000000000000)(Z:(dU l).length≤1000000000000) I (hv:FK 9 I l v):Pure aH 203 [v,str [32]] I (str (dU l)):=by
 rcases hv with⟨rfl,rfl⟩|⟨b,c,sp,rfl,hc,hb⟩
 ·exact dP (Enters.of func203 dE rfl) fun w _=>(Tryz.strings_Join_none none 0 ⟨#[32]⟩ w).mono fun e w' ⟨h1,h2⟩=>⟨by rw[h1];rfl,h2⟩
 refine fQ (Enters.of func203 dE rfl) fun w hw=>?_;have a0:=hw.1 _ _ hb;have a1:b<w.heap.size:=by
  rcases bJ b w.heap.size with h'|h'
  ·exact h'
  simp[Array.getElem?_eq_none h']at a0
 have O:(l.map fun x=>(⟨x.toArray⟩:ByteArray)).map (fun x=>x.data.toList)=l:=by
  rw[gG];exact(dS fun x _=>sI).trans (List.map_id l)
 have N:jG l [32]=dU l:=Ke.a8t l;have h:=Tryz.strings_Join b 0 c (l.map fun x=>⟨x.toArray⟩) ⟨#[32]⟩ w (fun j x W=>by
  rw[dK]at W;cases Z:l[j]? with
  |none=>rw[Z]at W;cases W
  |some y=>
   rw[Z]at W;cases W;rw[gI];exact cell_of_heap a0 (JW Z)) a1 (by simp;omega) (by simpa using hc) (by rw[O,show(⟨#[32]⟩:ByteArray).data.toList=[32] from rfl,N];omega)
 rw[O,show(⟨#[32]⟩:ByteArray).data.toList=[32] from rfl,N,aV]at h;exact h
theorem a8P s I:yZ aH 76 [str s] I [] (fun e O H'=>∃b,e= .returned (.func (.func 127) #[] #[ptr b 0])∧H'=[(b,zJ 9 [str s])]):=by
 refine zT func76 fun w0 _=>?_;refine yU 3 ?_;intro N _;refine zZ ?_;exact⟨N,rfl,rfl⟩
theorem KZ{l:List (List UInt8)}{k x}(h:l[k]?=some x):(l.take (k+1)).map str=(l.take k).map str++[str x]:=by
 obtain⟨N,O⟩:=aF.1 h;rw[aP N,O,fA];rfl
theorem a8K(ws:List (List UInt8)) f fst cap I (hl:ws.length≤1000000000000)(W:Gen aH f fst cap I (ws.map fun w=>[str w])):yZ aH 126 [.slice none 0 0,.func (.func f) fst.toArray cap.toArray] I []
 (fun e I' H'=>∃g,BO 0 1 ws.length (ws.map str) g∧e= .returned (gV ws.length g)∧H'=gH 9 (ws.map str) g):=by
 refine yZ.a7N func126 rfl dE (fF rfl) ?_;intro w0 _;refine yU 3 ?_;intro b1 _;refine yU 10 ?_;refine Cj.rangeFunc (ps:=[7]) (H1:=[_]) (R:=[]) (ws.map fun w=>[str w]) (fun k I' H'=>k≤ws.length∧∃g,BO 0 1 k ((ws.take k).map str) g∧H'=(b1,zJ 69 [gV k g])::gH 9 ((ws.take k).map str) g) (fun _ _ _=>False) rfl (b1d rfl) (seq1 _ _) rfl W (fun _ _ _ _ _ h=>h) ⟨bG _,none,⟨rfl,rfl⟩,rfl⟩ ?_ ?_ ?_
 ·intro l r k args _ _ _ hk a0 N;obtain⟨x,Z,rfl⟩:=b1l hk;obtain⟨a1,g,O,rfl⟩:=N;have a2:=(aF.1 Z).1;refine yU 3 ?_;refine Ej.asg ?_;refine yU 5 ?_;intro _ _;refine dA rfl (QW 0 (bG _) (by':=15) [_,_,_] rfl rfl rfl rfl rfl ED (.inr ⟨_,ED⟩) kR CG WZ rfl O rfl (iV (yY.at 0 rfl) rfl rfl rfl) oM ?_);intro _ a3;refine yU 3 ?_;refine Ej.pull (jC iK) ?_;refine bZ (fG (fH (fG iQ))) ?_;exact iF ⟨a2,_,by rw[KZ Z];exact a3,by rw[KZ Z];rfl⟩
 ·intro _ _ _ a0 N;rw[aV]at N;obtain⟨a1,g,O,rfl⟩:=N;rw[bQ]at O;rw[bQ];refine Ej.PX (Ej.seq (Cj.sr (dG (DV a1x (yY.at 1 rfl)) ?_)));refine dG FN ?_;refine J.ns (Cj.ret ?_);refine Ej.b4T (.inl rfl) ?_;refine WA.mark 0 rfl iJ ?_;refine WA.keep (fH (fH iQ)) ?_;exact WA.a0l rfl rfl ⟨g,O,rfl,fB _⟩
 exact fun _ _ _ _ _ hZ=>hZ.elim
theorem b2o(ws:List (List UInt8)) f fst cap I (W:ws.length≤1000000000000)(N:Gen aH f fst cap I (ws.map fun w=>[str w])):yZ aH 75 [.func (.func f) fst.toArray cap.toArray] I []
 (fun e I' H'=>∃g,BO 0 1 ws.length (ws.map str) g∧e= .returned (gV ws.length g)∧H'=gH 9 (ws.map str) g):=by
 refine zT func75 fun w0 _=>?_;refine BH (a8K ws f fst cap _ W N) ?_;intro _ _ _ _ O;obtain⟨g,Z,h,rfl⟩:=O;cases h;refine zZ ?_;exact⟨g,Z,rfl,fB _⟩
theorem PO s (hs:s.length≤1000000000) I:yZ aH 30 [str s] I [] (fun e I' H'=>∃v,e= .returned v∧FK 9 I' (bU s) v∧H'=[]):=by
 have a2:=Ke.KD s;refine zT func30 fun w0 _=>?_;refine PY (a8P s _) ?_;intro _ _ _ _ Z a0;obtain⟨sb,h,rfl⟩:=a0;cases h;refine iU (Z _ (.head _)) (fun I9 _ N=>?_);refine PY (b2o (bU s) _ [] [ptr sb 0] _ oM (a6n sb s hs _ N)) ?_;intro _ I9 _ O a1 W;have N:=O _ _ N;obtain⟨g,hg,h,rfl⟩:=W;cases h;refine J.a3Q (hg.base a1) (fun _ _ hv=>?_);refine zZ ?_;exact⟨_,rfl,hv,rfl⟩
end Go.Proofs.YtekmeaoblpfnpaaGreatDoor
end
section
namespace Go.Proofs.YtekmeaoblpfnpaaGreatDoor
open _root_.Go.Proofs.Tryz
open Go Go.Sx
theorem ascii_of_all{l:List UInt8}(h:l.all (fun b=>decide (b.toNat<128))=true):∀(j:Nat) b,(⟨l.toArray⟩:ByteArray).data.toList[j]?=some b→b.toNat<128:=fun j b N=>by
 rw[MC]at N;exact FZ (aZ.1 h b (ET N))
theorem b0X s (N:s.length≤1000000000000) I:Pure aH 246 [str s,str Ke.YT] I (str (gB s Ke.YT)):=
 fQ (Enters.of func246 dE rfl) fun w _=>by
  have h:=Any.strings_Trim_laid Tryz.lays160 kR ⟨s.toArray⟩ ⟨Ke.YT.toArray⟩ w (by rw[size_mk];omega) dE (ascii_of_all dE);rw[MC,MC]at h;exact h
theorem a7r s I:Pure aH 202 [str s,str [48]] I (str (s.dropWhile (· == 48))):=
 dP (Enters.of func202 dE rfl) fun w _=>by
  have h:=Tryz.strings_TrimLeft_one ⟨s.toArray⟩ 48 dE w;rw[MC]at h;exact h
theorem b2g{a b:Nat×Obj}{G:HL}:(G++[a,b]).Perm (a::(b::G++[])):=by
 rw[fB];exact List.perm_append_comm
theorem b1C{n:Nat}(h:n<256):jI.wrap (n:Int)=((aQ n).toNat:Int):=by
 rw[show(aQ n).toNat=n by simp;omega];simp[gJ,jD,iR];omega
theorem VK{f}{l:List (List UInt8)}{k x}(h:l[k]?=some x):((l.take (k+1)).map f).map str=((l.take k).map f).map str++[str (f x)]:=by
 obtain⟨N,O⟩:=aF.1 h;rw[aP N,O,fA,fA];rfl
theorem YX s (N:s.length≤1000000000000) I:Pure aH 201 [str s] I (.bool (bD s)):=by
 refine zT func201 fun w0 _=>?_;refine BF (b0X s N _) ?_;refine zZ ?_;exact⟨zC (fun b=>fC (.bool b)) (Ke.a2U s),rfl,rfl⟩
theorem ZN s skip (hs:s.length≤100000000) I:Pure aH 138 [str s,i64 skip] I (str (Ke.FY s skip)):=by
 refine eG ?_;have ab:(Ke.cut s skip).length≤s.length:=by unfold Ke.cut;simp
 have ac:=Ke.KD (Ke.cut s skip);have ad:=Ke.a7h (Ke.cut s skip);refine yZ.a7N func138 rfl dE (fF rfl) ?_;intro w0 _;refine yU 9 ?_;refine dG (ZG rfl rfl rfl) ?_;refine yU 2 ?_;refine dG (SB rfl rfl rfl) ?_;refine aW 13 (i64 (((min (max skip 0) (s.length:Int)).toNat:Nat):Int)) rfl (zC i64 oM) ?_;refine dG (EH (p:=(min (max skip 0) (s.length:Int)).toNat) (q:=s.length) rfl rfl DC ⟨_,rfl⟩ rfl oM oM) ?_;refine aW 14 (str (Ke.cut s skip)) rfl (by rw[bQ];rfl) ?_;refine yU 6 ?_;intro b1 _;refine PY (a8P (Ke.cut s skip) _) ?_;intro _ _ _ _ a7 a8;obtain⟨sb,h,rfl⟩:=a8;cases h;refine iU (a7 _ (.head _)) (fun _ _ N=>?_);refine yU 3 ?_;refine Cj.rangeFunc (ps:=[17]) (H1:=[_]) (R:=[]) ((bU (Ke.cut s skip)).map fun w=>[str w]) (fun k _ H'=>k≤(bU (Ke.cut s skip)).length∧∃g,BO 0 1 k ((((bU (Ke.cut s skip)).take k).map dD).map str) g∧H'=(b1,zJ 69 [gV k g])::gH 9 ((((bU (Ke.cut s skip)).take k).map dD).map str) g) (fun _ _ _=>False) rfl (b1d rfl) (seq1 _ _) rfl (a6n sb _ oM _ N) (fun _ _ _ _ _ h=>h) ⟨bG _,none,⟨rfl,rfl⟩,rfl⟩ ?_ ?_ ?_
 ·intro l r k args _ _ _ hk Z hY;have N:=Z _ _ N;obtain⟨x,W,rfl⟩:=b1l hk;obtain⟨a9,g,hg,rfl⟩:=hY;have a2:=(aF.1 W).1;have a3:=ET W;have ae:=Ke.a0P _ x a3;have af:0<x.length:=List.length_pos_iff.2 (Ke.SX _ _ x a3);have aa:=Ke.a6e x;refine yU 3 ?_;refine Ej.asg ?_;refine BF (YX x oM _) ?_;refine FV ?_ ?_<;>intro a0
  ·have a1:bD x=true:=a0;have O:dD x=Ke.number x:=by unfold dD;rw[a1];rfl
   refine yU 1 ?_;refine fM [] [] 13 kR ?_;refine yU 4 ?_;refine gU 23 (i64 ((x.length-1:Nat):Int)) rfl (zC i64 oM) ?_;refine gW 4 rfl (EH (p:=0) (q:=x.length-1) rfl rfl DC rfl ⟨_,rfl⟩ oM oM) ?_;refine gU 24 (str (x.take (x.length-1))) rfl (by rw[dH]) ?_;refine yU 4 ?_;refine gU 29 (i64 ((x.length-1:Nat):Int)) rfl (zC i64 oM) ?_;refine gW 10 rfl (EH (p:=x.length-1) (q:=x.length) rfl rfl DC ⟨_,rfl⟩ rfl oM oM) ?_;refine gU 30 (str (x.drop (x.length-1))) rfl (by rw[bQ]) ?_;refine BF (a7r (x.take (x.length-1)) _) ?_;refine yU 1 ?_;refine gW 11 rfl (LZ rfl rfl rfl (by rw[Ke.dropLast_take];have:=aa;unfold bK at this;rw[aN]at this;omega)) ?_;refine gU 31 (str (bK x)) rfl (by rw[Ke.dropLast_take];rfl) ?_;refine yU 7 ?_;refine dG (SB rfl rfl rfl) ?_;refine aW 34 (i64 ((min (bK x).length 99:Nat):Int)) rfl (zC i64 (by split<;>omega)) ?_;refine yU 5 ?_;refine dG (a3T rfl rfl rfl dE (ND (by show _≤((min (bK x).length 99 / 10:Nat):Int)∧((min (bK x).length 99 / 10:Nat):Int)≤_;omega))) ?_;refine aW 36 (i64 ((min (bK x).length 99 / 10:Nat):Int)) rfl rfl ?_;refine yU 1 ?_;refine aW 37 (i64 ((48+min (bK x).length 99 / 10:Nat):Int)) rfl (zC i64 oM) ?_;refine yU 1 ?_;refine aW 38 (u8 (aQ (48+min (bK x).length 99 / 10))) rfl (zC (dX .u8) (b1C oM)) ?_;refine yU 2 ?_;refine aW 40 (i64 ((min (bK x).length 99 % 10:Nat):Int)) rfl rfl ?_;refine yU 1 ?_;refine aW 41 (i64 ((48+min (bK x).length 99 % 10:Nat):Int)) rfl (zC i64 oM) ?_;refine yU 1 ?_;refine aW 42 (u8 (aQ (48+min (bK x).length 99 % 10))) rfl (zC (dX .u8) (b1C oM)) ?_;refine yU 1 ?_;intro _ _;refine dG (PI [aQ (48+min (bK x).length 99 / 10),aQ (48+min (bK x).length 99 % 10)] rfl rfl rfl KE DC ZW (yY.at 0 rfl) rfl) ?_;refine yU 1 ?_;refine dG (LZ rfl rfl rfl (by first|omega|(simp only[aN];omega)|(simp;omega))) ?_;refine aW 46 (str (Ke.number x)) rfl rfl ?_;refine yU 7 ?_;intro _ _;refine dA rfl (QW 0 (bG _) (by':=15) [_,_,_,_] rfl rfl rfl rfl rfl ED (.inr ⟨_,ED⟩) kR CG WZ rfl hg rfl (iV (yY.at 0 rfl) rfl rfl rfl) oM ?_);intro _ a4;refine yU 3 ?_;refine Ej.pull (jC (jC iK)) ?_;refine bZ (fG (fH (fH (fG iQ)))) ?_;exact iF ⟨a2,_,by rw[VK W,O];exact a4,by rw[VK W,O];rfl⟩
  have a1:bD x=false:=a0;have O:dD x=x:=by unfold dD;rw[a1];rfl
  refine yU 6 ?_;intro _ _;refine dA rfl (QW 0 (bG _) (by':=15) [_,_,_] rfl rfl rfl rfl rfl ED (.inr ⟨_,ED⟩) kR CG WZ rfl hg rfl (iV (yY.at 0 rfl) rfl rfl rfl) oM ?_);intro _ a5;refine yU 3 ?_;refine Ej.pull (jC iK) ?_;refine bZ (fG (fH (fG iQ))) ?_;exact iF ⟨a2,_,by rw[VK W,O];exact a5,by rw[VK W,O];rfl⟩
 ·intro _ _ _ Z hY;have N:=Z _ _ N;rw[aV]at hY;obtain⟨a9,g,hg,rfl⟩:=hY;rw[bQ]at hg;rw[show(bU (Ke.cut s skip)).take (bU (Ke.cut s skip)).length=bU (Ke.cut s skip) from bQ];refine yU 3 ?_;refine Cj.a4s rfl (fun a6=>?_);refine Cj.perm (H':=gH _ _ _++[_,_]) b2g ?_;refine Cj.a3Q (hg.base (fun p hp=>a6 p (.tail _ (.tail _ (List.mem_append_left _ hp))))) (fun _ _ hv=>?_);refine BF (a4W ((bU (Ke.cut s skip)).map dD) _ (by rw[aV];omega) oM _ hv) ?_;refine yU 4 ?_;refine Ej.b4T (.inl rfl) ?_;refine WA.mark 0 rfl iJ ?_;refine WA.keep (bI _) ?_;exact WA.a0l rfl rfl rT
 exact fun _ _ _ _ _ hZ=>hZ.elim
end Go.Proofs.YtekmeaoblpfnpaaGreatDoor
end
section
namespace Go.Proofs.YtekmeaoblpfnpaaGreatDoor
open _root_.Go.Proofs.Tryz
open Go Go.Sx
theorem a7V r (h:iW r=true):eH r=true:=by
 unfold iW at h;unfold eH;simp at h ⊢;omega
theorem a8E r I:∃b,Pure aH 268 [.int .i32 r] I (.bool b)∧(b=true→eH r=true):=
 ⟨_,dP (Enters.of func268 dE rfl) fun w _=>Tryz.utf8_ValidRune r w,a7V r⟩
theorem a1L l c I:Pure aH 217 [str l,u8 c] I (i64 (aY l c)):=
 dP (Enters.of func217 dE rfl) fun w _=>by
  have h:=Tryz.strings_IndexByte ⟨l.toArray⟩ c.toNat w;have e:((c.toNat:Int)).toNat.toUInt8=c:=sI;rw[MC,e]at h;exact h
theorem indexByte_none{l c}(h:∀d∈l,d.toNat<128)(Z:128≤c.toNat):aY l c= -1:=by
 induction l with
 |nil=>rfl
 |cons d l N=>
  have hd:=h d (.head _);have O:(d == c)=false:=by rw[beq_eq_false_iff_ne];intro e;subst e;omega
  rw[aY,O,N fun x W=>h x (.tail _ W)];rfl
theorem b6f{r}(W:eH r=true)(O:128≤r):2≤(aG r).data.toList.length∧(aG r).data.toList.length≤4∧∃c,(aG r).data.toList[(aG r).data.toList.length-1]?=some c∧128≤c.toNat:=by
 obtain⟨h1,h2,h3⟩:=encode_facts r W O;have Z:(aG r).data.toList.length=(aG r).size:=rfl;rw[Z];have N:(aG r).size-1<(aG r).size:=oM;exact⟨h1,h2,_,Lib.data_getElem? (aG r) _ N,h3 N⟩
theorem a1m{l:List UInt8}{i c}(h:l[i]?=some c)(Z:c.toNat<128):aA ⟨l.toArray⟩ i=(c.toNat,1):=by
 obtain⟨N,hg⟩:=aF.1 h;have O:i<(⟨l.toArray⟩:ByteArray).size:=by rw[size_mk];exact N
 have W:(⟨l.toArray⟩:ByteArray)[i]'O=c:=by simp[ByteArray.getElem_eq_getElem_data,hg]
 rw[decode_ascii _ _ O (by rw[W];exact Z),W]
theorem a4H N (W:∀c∈N,c.toNat<128)(h4:4≤N.length)(af:N.length≤1000000) r (aa:128≤r)(hr:r≤2147483647) I:Pure aH 239 [str N,.int .i32 r] I (i64 (-1)):=by
 refine eG ?_;obtain⟨_,a1⟩:=a8E r I;refine zT func239 fun w0 _=>?_;refine yU 11 ?_;refine J.XQ 2 163 true _ rfl rfl rfl (zH oM) (AX BR rfl rfl ?_);refine J.XQ 2 163 true _ rfl rfl rfl (zH oM) (AX (a4r rfl rfl rfl) rfl rfl ?_);refine dG (a3p rfl rfl (zH oM) rfl) ?_;refine yU 3 ?_;refine gX rfl (fun a2=>aT (fO (gY (zI oM)) a2)) (fun a2=>?_);refine AP ?_ ?_<;>intro a3 ab
 ·refine yU 4 ?_;refine dA rfl (a0k rfl rfl rfl rfl DC ?_);intro b3 _;refine yU 3 ?_;refine fE (ι:=Nat) (fun i=>True) (fun i=>N.length-i) (fun i=>[(0,str N),(1,.int .i32 r),(174,str N),(175,ptr b3 0)]) (fun i=>I) (fun i=>[(b3,.stringIter ⟨N.toArray⟩ i)]) 0 trivial rT rfl rfl ?_;rintro i -;rcases bJ i N.length with hp|hp
  ·obtain⟨c,O⟩:∃c,N[i]?=some c:=⟨_,CX hp⟩;have a4:=a1m O (W c (ET O));refine yU 2 ?_;refine dA rfl (a2k 0 rfl rfl rfl rfl rfl (by rw[size_mk];omega) iJ ?_);refine yU 22 ?_;refine gX rfl (fun a7=>aT (fO (gY (beq_eq_false_iff_ne.2 (by rw[a4];dsimp only;have:=W c (ET O);omega))) a7)) (fun a7=>?_);refine yU 2 ?_;refine dL (i+(aA ⟨N.toArray⟩ i).2) trivial (by rw[a4];dsimp only;omega) rT rfl rfl

  refine yU 2 ?_;refine dA rfl (VG 0 rfl rfl rfl rfl rfl (by rw[size_mk];omega) ?_);refine BP ?_;exact rT
 refine BF (a1.1) ?_;refine FV ?_ ?_<;>intro a8
 ·refine zZ ?_;exact rT
 have ad:eH r=true:=a1.2 (by simpa using a8);obtain⟨_,_,c2,Z,a3⟩:=b6f ad aa;obtain⟨c1,a0⟩:∃c,N[(aG r).data.toList.length-1]?=some c:=⟨_,CX oM⟩;have a2:=W c1 (ET a0);have ae:(c1.toNat:Int)≠c2.toNat:=oM;have ac:∀d∈(N.take N.length).drop ((aG r).data.toList.length-1+1),d.toNat<128:=fun d hd=>W d (fP (List.mem_of_mem_drop hd));refine Cj.scope ?_;refine yU 28 ?_;refine fE (ι:=Unit) (fun i=>True) (fun i=>0) (fun i=>[(0,str N),(7,str (aG r).data.toList),(8,i64 ((aG r).data.toList.length-1:Int)),(9,i64 ((aG r).data.toList.length-1:Int))]) (fun i=>I) (fun i=>[]) () trivial rT rfl rfl ?_;rintro _ -;refine yU 9 ?_;refine gX rfl (fun a9=>?_) (fun a9=>aT (fO (gY (zH oM)) a9));refine yU 3 ?_;refine Cj.scope ?_;refine yU 2 ?_;refine fM [] [] 7 kR ?_;refine yU 2 ?_;refine gW 2 rfl (EO rfl rfl rfl DC oM (by rw[show((((aG r).data.toList.length:Int)-1).toNat)=(aG r).data.toList.length-1 by omega];exact a0)) ?_;refine yU 2 ?_;refine gW 5 rfl (EO rfl rfl rfl DC oM (by rw[show((((aG r).data.toList.length:Int)-1).toNat)=(aG r).data.toList.length-1 by omega];exact Z)) ?_;refine yU 3 ?_;refine gX rfl (fun a5=>?_) (fun a5=>aT (fO (gY (bne_iff_ne.2 ae)) a5));refine yU 1 ?_;refine fM [] [] 9 kR ?_;refine yU 3 ?_;refine gU 36 (i64 ((aG r).data.toList.length-1+1:Nat)) rfl (by congr 1;omega) ?_;refine gW 3 rfl (EH (p:=(aG r).data.toList.length-1+1) (q:=N.length) rfl rfl DC ⟨_,rfl⟩ rfl oM oM) ?_;refine yU 2 ?_;refine gW 6 rfl (EO rfl rfl rfl DC oM (by rw[show((((aG r).data.toList.length:Int)-1).toNat)=(aG r).data.toList.length-1 by omega];exact Z)) ?_;refine BF (a1L _ _ _) ?_;refine yU 1 ?_;refine gU 41 (i64 (-1)) rfl (by rw[indexByte_none ac a3]) ?_;refine yU 10 ?_;refine gX rfl (fun a6=>?_) (fun a6=>aT (fO (gY (zH oM)) a6));refine yU 8 ?_;refine Ej.b7F ?_;refine yU 4 ?_;refine Ej.b7F ?_;refine zZ ?_;exact rT
theorem a2D N (Z:∀c∈N,c.toNat<128)(h4:4≤N.length)(O:N.length≤1000000) r (W:128≤r)(hr:r≤2147483647) I:Pure aH 195 [str N,.int .i32 r] I (.bool false):=by
 refine zT func195 fun w0 _=>?_;refine BF (a4H N Z h4 O r W hr _) ?_;refine zZ ?_;exact rT
def a6V:List UInt8:=[48,49,50,51,52,53,54,55,56,57,88,120,32,45]
theorem b7b c:decide (0≤aY a6V c)=aK c:=by
 have h:∀n<256,decide (0≤aY a6V (aQ n))=aK (aQ n):=by decide +kernel
 have:=h c.toNat c.toNat_lt
 rwa [dJ]at this
def ZJ (r:Nat):Bool:=decide (r<128) && aK (aQ r)
theorem a4D(r:Nat)(O:r≤1114111) I:Pure aH 195 [str a6V,.int .i32 (r:Int)] I (.bool (ZJ r)):=by
 rcases bJ r 128 with h|h
 ·refine dP (Enters.of func195 dE rfl) fun w _=>?_;have h1:=Tryz.strings_ContainsRune_ascii ⟨a6V.toArray⟩ (r:Int) w oM oM;have e:((r:Int)).toNat.toUInt8=aQ r:=rfl;rw[MC,e,b7b]at h1;have N:ZJ r=aK (aQ r):=by simp[ZJ,h]
  rw[N];exact h1
 have N:ZJ r=false:=by simp[ZJ];omega
 rw[N];exact a2D a6V dE dE dE (r:Int) oM oM I
theorem b7d(r:Nat)(N:r≤1114111) I:Pure aH 194 [.int .i32 (r:Int)] I (.bool (!ZJ r)):=by
 refine zT func194 fun w0 _=>?_;refine BF (a4D r N _) ?_;refine zZ ?_;exact rT
theorem b7O{l:List UInt8}{i c}(h:l[i]?=some c)(N:128≤c.toNat):128≤(aA ⟨l.toArray⟩ i).1:=by
 have h1:Lib.decodeL (l.drop i)=aA ⟨l.toArray⟩ i:=Lib.decodeL_drop ⟨l.toArray⟩ i;rw[←h1,drop_cons h,Lib.decodeL_N];simp only[List.getD_cons_zero];unfold Lib.decodeN;rw[zD oM]
 split
 ·split
  ·assumption
  decide
 split
 ·split
  ·rename_i h2;exact JK dE h2.1
  decide
 split
 ·split
  ·rename_i h2;exact JK dE h2.1
  decide
 decide
theorem b0Q{l:List UInt8}{i c}(h:l[i]?=some c)(N:ZJ (aA ⟨l.toArray⟩ i).1=true):aK c=true∧(aA ⟨l.toArray⟩ i).2=1:=by
 rcases bJ c.toNat 128 with O|O
 ·rw[a1m h O]at N ⊢;simp only[ZJ,bC,dJ]at N;exact⟨N.2,rfl⟩
 have:=b7O h O;simp only[ZJ,bC,zG]at N;omega
theorem b5J{l:List UInt8}{i c}(h:l[i]?=some c)(O:ZJ (aA ⟨l.toArray⟩ i).1=false):aK c=false:=by
 rcases bJ c.toNat 128 with N|N
 ·rw[a1m h N]at O;simpa[ZJ,N]using O
 have h1:∀n<256,128≤n→aK (aQ n)=false:=by decide +kernel
 have:=h1 c.toNat c.toNat_lt N
 rwa [dJ]at this
theorem b6Z{l:List UInt8}{i c}(h:(l.take i).all aK=true)(W:l[i]?=some c)(N:aK c=true):(l.take (i+1)).all aK=true:=by
 obtain⟨O,Z⟩:=aF.1 W;rw[aP O,Z,List.all_append,h];simp[N]
theorem b2t{l:List UInt8}:∀{i:Nat} {c:UInt8},(l.take i).all aK=true→l[i]?=some c→aK c=false→l.takeWhile aK=l.take i:=by
 induction l with
 |nil=>intro i c _ h;simp at h
 |cons a r W=>
  intro i c h O N;cases i with
  |zero=>simp at O;subst O;rw[List.takeWhile_cons_of_neg (by simp[N])];rfl
  |succ i=>
   simp only[fZ,iY,bC]at h;rw[dZ h.1,W h.2 (by simpa using O) N,fZ]
theorem a4L{l:List UInt8}(h:l.all aK=true):l.takeWhile aK=l:=by
 induction l with
 |nil=>rfl
 |cons a r N=>
  rw[iY,bC]at h;rw[dZ h.1,N h.2]
def b3W (s:List UInt8) (n:Int):Prop:=(n= -1∧s.takeWhile aK=s)∨∃k:Nat,n=k∧k≤s.length∧s.takeWhile aK=s.take k
theorem a8Z s I:yZ aH 238 [str s,.func (.func 194) #[] #[],.bool true] I [] (fun e I' H'=>∃n,e= .returned (i64 n)∧b3W s n∧H'=[]):=by
 refine zT func238 fun w0 _=>?_;refine yU 9 ?_;refine dA rfl (a0k rfl rfl rfl rfl DC ?_);intro b1 _;refine yU 3 ?_;refine fE (ι:=Nat) (fun i=>i≤s.length∧(s.take i).all aK=true) (fun i=>s.length-i) (fun i=>[(1,.func (.func 194) #[] #[]),(2,.bool true),(10,ptr b1 0)]) (fun i=>I) (fun i=>[(b1,.stringIter ⟨s.toArray⟩ i)]) 0 ⟨bG _,rfl⟩ rT rfl rfl ?_;rintro i ⟨hi,O⟩;rcases bJ i s.length with hp|hp
 ·have hd:=iI s hp;have a0:=Ke.decode_le s i;obtain⟨c,N⟩:∃c,s[i]?=some c:=⟨_,CX hp⟩;refine yU 2 ?_;refine dA rfl (a2k 0 rfl rfl rfl rfl rfl (by rw[size_mk];omega) iJ ?_);refine BF (b7d _ a0 _) ?_;refine FV ?_ ?_<;>intro Z
  ·have W:ZJ (aA ⟨s.toArray⟩ i).1=false:=by have h:=Z;simpa using h
   refine BP ?_;exact⟨_,rfl,.inr ⟨i,rfl,hi,b2t O N (b5J N W)⟩,rfl⟩
  have W:ZJ (aA ⟨s.toArray⟩ i).1=true:=by have h:=Z;simpa using h
  refine yU 2 ?_;refine dL (i+(aA ⟨s.toArray⟩ i).2) ⟨hd.2,by rw[(b0Q N W).2];exact b6Z O N (b0Q N W).1⟩ oM rT rfl rfl

 refine yU 2 ?_;refine dA rfl (VG 0 rfl rfl rfl rfl rfl (by rw[size_mk];omega) ?_);refine BP ?_;exact⟨_,rfl,.inl ⟨rfl,a4L (by rw[bV oM]at O;exact O)⟩,rfl⟩
theorem a9b s I:yZ aH 193 [str s,.func (.func 194) #[] #[]] I [] (fun e W H'=>∃n,e= .returned (i64 n)∧b3W s n∧H'=[]):=by
 refine zT func193 fun w0 _=>?_;refine BH (a8Z s _) ?_;intro _ _ _ _ N;obtain⟨n,h,O,rfl⟩:=N;cases h;refine zZ ?_;exact⟨_,rfl,O,rfl⟩
end Go.Proofs.YtekmeaoblpfnpaaGreatDoor
end
section
namespace Go.Proofs.YtekmeaoblpfnpaaGreatDoor
open _root_.Go.Proofs.Tryz
open Go Go.Sx
theorem b4n{l sp}{k:Nat}{c}(h:l[k]?=some c):(CY l++sp)[k]?=some (u8 c):=by
 obtain⟨N,_⟩:=aF.1 h;rw[List.getElem?_append_left (by rw[OA];exact N),CY,dK,h];rfl
theorem w8{x}(h:0≤x∧x≤255):jI.wrap x=x:=by
 simp[gJ,jD,iR];omega
theorem b1b:∀(l:List UInt8) (k:Nat),cO k l≤1000*l.length
 |[],_=>by simp[cO]
 |c::r,k=>by
  have h1:=b1b r (k+1);have h2:=c.toNat_lt;have h3:(c.toNat-48)*(1+2*(k % 2))≤255*3:=dV oM oM;simp only[cO,aO];omega
theorem b3Z{l:List UInt8}{k c}(h:l[k]?=some c):cO 0 (l.take (k+1))=cO 0 (l.take k)+(c.toNat-48)*(1+2*(k % 2)):=by
 obtain⟨N,O⟩:=aF.1 h;rw[aP N,O,Ke.a8u,cO,cO,aU,dQ oM,gI,Nat.add_zero]
theorem b4N c:dB c≤255:=by
 have h2:=c.toNat_lt;unfold dB;split<;>omega
theorem b0U:∀(l:List UInt8) (k:Nat),dF k l≤2550*l.length
 |[],_=>by simp[dF]
 |c::r,k=>by
  have h1:=b0U r (k+1);have h3:(10-k)*dB c≤10*255:=dV oM (b4N c);simp only[dF,aO];omega
theorem a5j{l:List UInt8}{k c}(h:l[k]?=some c):dF 0 (l.take (k+1))=dF 0 (l.take k)+(10-k)*dB c:=by
 obtain⟨N,O⟩:=aF.1 h;rw[aP N,O,Ke.a8Y,dF,dF,aU,dQ oM,gI,Nat.add_zero]
theorem b4H{l}{k:Nat}{c}(N:bD l=true)(h:l[k]?=some c):48≤c.toNat∧c.toNat≤57:=Ke.a1i.1 (aZ.1 N c (ET h))
theorem a9v s (a4:12≤s.length)(hs:s.length≤1000000)(hd:bD (s.take 12)=true) I:Pure aH 200 [str s] I (u8 (bM s)):=by
 refine eG ?_;have a5:(s.take 12).length=12:=by rw[aU];omega
 refine zT func200 fun w0 _=>?_;refine yU 14 ?_;refine dG (EH (p:=0) (q:=12) rfl rfl DC rfl ⟨_,rfl⟩ oM oM) ?_;refine aW 7 (str (s.take 12)) rfl (by rw[dH]) ?_;refine dA rfl (NW rfl rfl rfl rfl DC KE ZW ?_);intro b1 c2 a0 W _ _;refine yU 5 ?_;refine fE (ι:=Nat) (fun j=>j≤(s.take 12).length) (fun j=>(s.take 12).length-j) (fun j=>[(0,str s),(3,i64 ((cO 0 ((s.take 12).take j):Nat):Int)),(8,.slice (some ⟨b1,0,none⟩) (s.take 12).length c2),(9,i64 ((s.take 12).length:Int)),(10,i64 (j:Int))]) (fun j=>I) (fun j=>[(b1,.cells (CY (s.take 12)++a0).toArray 5 (W,W+1))]) 0 (bG _) rT rfl rfl ?_;intro j hj;have a1:=b1b ((s.take 12).take j) 0;rw[aU,dQ hj]at a1;refine AP ?_ ?_<;>intro a2 Z
 ·have a3:j<(s.take 12).length:=oM;obtain⟨c,N⟩:∃c,(s.take 12)[j]?=some c:=⟨_,CX a3⟩;have hc:=b4H hd N;have hm:(c.toNat-48)*(1+2*(j % 2))≤9*3:=dV oM oM;refine BD j ?_;refine dG (zN rfl rfl tA5 (yY.at 0 rfl) (b4n N)) ?_;refine yU 7 ?_;refine dG (a1I rfl rfl rfl (w8 oM)) ?_;refine yU 1 ?_;refine aW 18 (i64 ((c.toNat-48:Nat):Int)) rfl (zC i64 ((ND oM).trans oM)) ?_;refine yU 2 ?_;refine aW 20 (i64 ((j % 2:Nat):Int)) rfl rfl ?_;refine yU 2 ?_;refine aW 22 (i64 ((1+2*(j % 2):Nat):Int)) rfl (zC i64 oM) ?_;refine dG (a1o rfl rfl rfl (ND (by rw[←bT];omega))) ?_;refine aW 23 (i64 (((c.toNat-48)*(1+2*(j % 2)):Nat):Int)) rfl (zC i64 (bT _ _).symm) ?_;refine yU 9 ?_;refine dL (j+1) oM oM ⟨rfl,by rw[b3Z N];exact zC (fun z=>some (dX .i64 z)) oM,rfl,rfl,rfl,trivial⟩ rfl rfl
 have O:(s.take 12).take j=s.take 12:=bV oM;refine yU 9 ?_;refine aW 27 (i64 ((cO 0 (s.take 12) % 10:Nat):Int)) rfl (by rw[O];rfl) ?_;refine yU 1 ?_;refine aW 28 (i64 ((10-cO 0 (s.take 12) % 10:Nat):Int)) rfl (zC i64 oM) ?_;refine yU 1 ?_;refine aW 29 (i64 (((10-cO 0 (s.take 12) % 10) % 10:Nat):Int)) rfl rfl ?_;refine yU 1 ?_;refine aW 30 (i64 ((48+(10-cO 0 (s.take 12) % 10) % 10:Nat):Int)) rfl (zC i64 oM) ?_;refine yU 1 ?_;refine aW 31 (u8 (bM s)) rfl (zC (dX .u8) (b1C oM)) ?_;refine yU 4 ?_;refine bZ (bI _) ?_;refine zZ ?_;exact rT
theorem a6A s (a8:s.length=10)(hx:∀c∈s,jE c=true∨c=88) I:Pure aH 199 [str s] I (.bool (bP s)):=by
 refine eG ?_;refine zT func199 fun w0 _=>?_;refine yU 14 ?_;refine dA rfl (NW rfl rfl rfl rfl DC KE ZW ?_);intro b1 c2 a3 a0 _ _;refine yU 5 ?_;refine fE (ι:=Nat) (fun j=>j≤s.length) (fun j=>s.length-j) (fun j=>[(0,str s),(3,i64 ((dF 0 (s.take j):Nat):Int)),(8,.slice (some ⟨b1,0,none⟩) s.length c2),(9,i64 (s.length:Int)),(10,i64 (j:Int))]) (fun j=>I) (fun j=>[(b1,.cells (CY s++a3).toArray 5 (a0,a0+1))]) 0 (bG _) rT rfl rfl ?_;intro j hj;have a4:=b0U (s.take j) 0;rw[aU,dQ hj]at a4;refine AP ?_ ?_<;>intro a5 a1
 ·have a6:j<s.length:=oM;obtain⟨c,N⟩:∃c,s[j]?=some c:=⟨_,CX a6⟩;have hc:48≤c.toNat:=(hx c (ET N)).elim (fun h=>(Ke.a1i.1 h).1) (fun h=>by subst h;decide);have a9:=c.toNat_lt;have hm:(10-j)*dB c≤10*255:=dV oM (b4N c);refine BD j ?_;refine dG (zN rfl rfl tA5 (yY.at 0 rfl) (b4n N)) ?_;refine yU 7 ?_;refine dG (a1I rfl rfl rfl (w8 oM)) ?_;refine yU 1 ?_;refine aW 17 (i64 ((c.toNat-48:Nat):Int)) rfl (zC i64 ((ND oM).trans oM)) ?_;refine AP ?_ ?_<;>intro O a2
  ·have a7:dB c=10:=by
    have h:(c.toNat:Int)=88:=IW O;unfold dB;rw[zF (iL.1 (by rw[show(88:UInt8).toNat=88 from rfl];omega))]
   refine yU 8 ?_;refine aW 22 (i64 ((10-j:Nat):Int)) rfl (zC i64 oM) ?_;refine yU 1 ?_;refine aW 23 (i64 ((dB c:Nat):Int)) rfl (zC i64 oM) ?_;refine dG (a1o rfl rfl rfl (ND (by rw[←bT];omega))) ?_;refine aW 24 (i64 (((10-j)*dB c:Nat):Int)) rfl (zC i64 (bT _ _).symm) ?_;refine yU 9 ?_;refine dL (j+1) oM oM ⟨rfl,by rw[a5j N];exact zC (fun z=>some (dX .i64 z)) oM,rfl,rfl,rfl,trivial⟩ rfl rfl
  have a7:dB c=c.toNat-48:=by
   have h:¬(c.toNat:Int)=88:=KL O;unfold dB;rw[zD (fun e=>h (by subst e;rfl))]
  refine yU 6 ?_;refine aW 22 (i64 ((10-j:Nat):Int)) rfl (zC i64 oM) ?_;refine yU 1 ?_;refine aW 23 (i64 ((dB c:Nat):Int)) rfl (zC i64 oM) ?_;refine dG (a1o rfl rfl rfl (ND (by rw[←bT];omega))) ?_;refine aW 24 (i64 (((10-j)*dB c:Nat):Int)) rfl (zC i64 (bT _ _).symm) ?_;refine yU 9 ?_;refine dL (j+1) oM oM ⟨rfl,by rw[a5j N];exact zC (fun z=>some (dX .i64 z)) oM,rfl,rfl,rfl,trivial⟩ rfl rfl
 have Z:s.take j=s:=bV oM;refine yU 9 ?_;refine aW 28 (i64 ((dF 0 s % 11:Nat):Int)) rfl (by rw[Z];rfl) ?_;refine TV ?_ ?_<;>intro W
 ·have hr:(dF 0 s % 11 == 0)=true:=beq_iff_eq.2 (by have h:=IW W;omega);refine yU 1 ?_;refine J.zg (EH (p:=0) (q:=9) rfl rfl DC rfl ⟨_,rfl⟩ oM oM) ?_;refine aW 32 (str (s.take 9)) rfl (by rw[dH]) ?_;refine BF (YX (s.take 9) (by rw[aU];omega) _) ?_;refine yU 5 ?_;refine bZ (bI _) ?_;refine zZ ?_;exact⟨zC (fun b=>fC (.bool b)) (by unfold bP;rw[hr];rfl),rfl⟩
 have hr:(dF 0 s % 11 == 0)=false:=beq_eq_false_iff_ne.2 (fun e=>KL W (by rw[e];rfl));refine yU 8 ?_;refine bZ (bI _) ?_;refine zZ ?_;exact⟨zC (fun b=>fC (.bool b)) (by unfold bP;rw[hr];rfl),rfl⟩
theorem b2s s:∀c∈aB s,jE c=true∨c=88:=fun c N=>by
 obtain⟨d,O,rfl⟩:=cZ.1 N;obtain⟨h1,h2⟩:=aS.1 O;have h3:aK d=true:=aZ.1 (gK (p:=aK)) d h1;revert h2 h3;exact Ke.a8j (p:=fun d=>Ke.nb d=true→aK d=true→jE (Ke.up d)=true∨Ke.up d=88) (by decide +kernel) d
theorem b6o s:(aB s).length≤s.length:=by
 unfold aB;rw[aV];exact JK (dM _ _) (dN _).length_le
theorem b2r s (Z:s.length≤1000000000) I:Pure aH 196 [str (gQ (s.takeWhile aK))] I (str (aB s)):=by
 refine fQ (Enters.of func196 dE rfl) fun w _=>?_;have N:∀c∈gQ (s.takeWhile aK),c.toNat<128∧Lib.upperB c=Ke.up c:=fun c O=>by
  obtain⟨h1,h2⟩:=aS.1 O;have h3:aK c=true:=aZ.1 (gK (p:=aK)) c h1;revert h3;exact Ke.a8j (p:=fun c=>aK c=true→c.toNat<128∧Lib.upperB c=Ke.up c) (by decide +kernel) c
 have hl:(gQ (s.takeWhile aK)).length≤s.length:=JK (dM _ _) (dN _).length_le;have h:=Tryz.strings_ToUpper_ascii ⟨(gQ (s.takeWhile aK)).toArray⟩ w (by rw[size_mk];omega) (fun j b W=>by rw[MC]at W;exact(N b (ET W)).1);rw[MC]at h;have e:Lib.toUpperA (gQ (s.takeWhile aK))=aB s:=dS fun c O=>(N c O).2;rw[e]at h;exact h
theorem b3p{a b}(h:a.length=12):bM (a++b)=bM a:=by
 unfold bM;rw[dR oM]
theorem b4f{a b}(h:bD a=true)(N:a.length=9):bD (([57,55,56]++a++b).take 12)=true:=by
 rw[dR (by simp;omega),bV (by simp;omega),Ke.a0m,h];rfl
theorem b1h s (hs:s.length≤100000000) I:Pure aH 137 [str s] I (.tuple #[str (dW s).1,.bool (dW s).2]):=by
 refine eG ?_;have am:=b2s s;have au:=b6o s;have av:(s.takeWhile aK).length≤s.length:=(dN _).length_le;refine zT func137 fun w0 _=>?_;refine BH (a9b s _) ?_;intro _ _ _ _ an;obtain⟨n,h,hn,rfl⟩:=an;cases h;refine yU 3 ?_;refine Cj.join (ι:=Heap) (fun J4=>True) (fun J4=>[(0,str (s.takeWhile aK))]) (fun J4=>J4) (fun J4=>[]) ?_ (fun N=>?_)
 ·rintro J4 -;refine yU 3 ?_;intro b6 _;refine J.pull iK ?_;refine BH (ZR _ _ _ _ b6 _ _) ?_;intro _ _ _ _ ag;obtain⟨rb,ao,h,rfl,ho⟩:=ag;cases h;refine yU 1 ?_;refine J.pull iK ?_;refine BH (a9W rb ao (s.takeWhile aK) oM _ ho) ?_;intro _ _ _ a8 ah;have ho:=ho.mono a8;obtain⟨h,rfl⟩:=ah;cases h;refine aW 15 (str (gQ (s.takeWhile aK))) rfl rfl ?_;refine BF (b2r s oM _) ?_;refine yU 3 ?_;refine Cj.join (ι:=Heap) (fun J8=>¬((aB s).length=10∧bP (aB s)=true)∧¬((aB s).length=13∧bD (aB s)=true∧bM (aB s)=(aB s).getD 12 0)) (fun J8=>[(0,str (aB s))]) (fun J8=>J8) (fun J8=>[]) ?_ (fun N=>?_)
  ·rintro J8 ⟨W,O⟩;refine yU 7 ?_;refine bZ (bI _) ?_;refine zZ ?_;have he:dW s=([],false):=by unfold dW jF;rw[zD W,zD O]
   rw[he];exact rT
  refine yU 1 ?_;refine Cj.join (ι:=Bool×Heap) (fun y=>(y.1=true→(aB s).length=10∧bP (aB s)=true)∧(y.1=false→¬((aB s).length=10∧bP (aB s)=true))) (fun y=>[(0,str (aB s)),(17,.bool y.1)]) (fun y=>y.2) (fun y=>[]) ?_ (fun N=>?_)
  ·rintro⟨y,_⟩ ⟨ab,ac⟩;dsimp only at ab ac ⊢;refine FV ?_ ?_<;>intro a0
   ·obtain⟨a5,ad⟩:=ab a0;have ap:bD ((aB s).take 9)=true:=(Bool.and_eq_true_iff.1 ad).2;have ai:=b4f (b:=[48]) ap (by rw[aU];omega);refine yU 3 ?_;refine dG (EH (p:=0) (q:=9) rfl rfl DC rfl ⟨_,rfl⟩ oM oM) ?_;refine aW 26 (str ((aB s).take 9)) rfl (by rw[dH]) ?_;refine dG (LZ rfl rfl rfl (by first|omega|(simp only[aN];omega)|(simp;omega))) ?_;refine yU 7 ?_;refine dG (LZ rfl rfl rfl (by first|omega|(simp only[aN];omega)|(simp;omega))) ?_;refine BF (a9v _ (by simp;omega) (by simp;omega) ai _) ?_;refine aW 31 (u8 (bM ([57,55,56]++(aB s).take 9))) rfl (by rw[b3p (by simp;omega)]) ?_;refine yU 1 ?_;intro _ _;refine dG (PI [bM ([57,55,56]++(aB s).take 9)] rfl rfl rfl KE DC ZW (yY.at 0 rfl) rfl) ?_;refine dG (LZ rfl rfl rfl (by first|omega|(simp only[aN];omega)|(simp;omega))) ?_;refine yU 7 ?_;refine bZ (bI _) ?_;refine zZ ?_;have he:dW s=([57,55,56]++(aB s).take 9++[bM ([57,55,56]++(aB s).take 9)],true):=by unfold dW jF;rw[zF ⟨a5,ad⟩]
    rw[he];exact rT
   have W:=ac a0;refine yU 1 ?_;refine fM [] [] 15 kR ?_;refine yU 4 ?_;refine JA.split 39 rfl (fun a1=>?_) (fun a1=>?_)
   rotate_left
   ·have O:¬((aB s).length=13∧bD (aB s)=true∧bM (aB s)=(aB s).getD 12 0):=fun e=>KL a1 (by rw[e.1];rfl);refine yU 16 ?_;exact N _ _ _ _ ⟨W,O⟩ rT rfl rfl
   have aq:(aB s).length=13:=by have h:=IW a1;omega
   refine BF (YX (aB s) oM _) ?_;refine yU 3 ?_;refine JA.split 43 rfl (fun Z=>?_) (fun Z=>?_)
   rotate_left
   ·have O:¬((aB s).length=13∧bD (aB s)=true∧bM (aB s)=(aB s).getD 12 0):=fun e=>aT (e.2.1.symm.trans Z);refine yU 12 ?_;exact N _ _ _ _ ⟨W,O⟩ rT rfl rfl
   have ae:bD (aB s)=true:=Z;have aj:bD ((aB s).take 12)=true:=aZ.2 fun c hc=>aZ.1 ae c (fP hc);obtain⟨c,a6⟩:∃c,(aB s)[12]?=some c:=⟨_,CX oM⟩;have af:(aB s).getD 12 0=c:=by rw[List.getD,a6];rfl
   refine yU 2 ?_;refine JA.fix BM (fun al=>?_);refine JA.UY 11 7 43 true _ rfl al rfl rfl Z (EO rfl rfl rfl DC oM a6) ?_;refine BF (a9v (aB s) oM oM aj _) ?_;refine AP ?_ ?_<;>intro a2 a9
   ·have ar:bM (aB s)=(aB s).getD 12 0:=by have h:=IW a2;rw[af];exact iL.1 oM
    refine yU 10 ?_;refine bZ (bI _) ?_;refine zZ ?_;have he:dW s=(aB s,true):=by unfold dW jF;rw[zD W,zF ⟨aq,ae,ar⟩]
    rw[he];exact rT
   ·have O:¬((aB s).length=13∧bD (aB s)=true∧bM (aB s)=(aB s).getD 12 0):=fun e=>KL a2 (by rw[e.2.2,af]);refine yU 2 ?_;exact N _ _ _ _ ⟨W,O⟩ rT rfl rfl
  refine TV ?_ ?_<;>intro a3
  ·have a5:(aB s).length=10:=by have h:=IW a3;omega
   refine BF (a6A (aB s) a5 am _) ?_;refine yU 3 ?_;exact N (bP (aB s),_) _ _ _ ⟨fun h=>⟨a5,h⟩,fun h e=>aT (e.2.symm.trans h)⟩ rT rfl rfl
  have W:¬((aB s).length=10∧bP (aB s)=true):=fun e=>KL a3 (by rw[e.1];rfl);refine yU 5 ?_;exact N (false,_) _ _ _ ⟨fun h=>(by cases h),fun _=>W⟩ ⟨rfl,by first|rfl|exact zC (fun b=>some (Value.bool b)) (by assumption),trivial⟩ rfl rfl
 refine AP ?_ ?_<;>intro a4 aa
 ·obtain⟨k,rfl,_,a7⟩:∃k:Nat,n=k∧k≤s.length∧s.takeWhile aK=s.take k:=hn.elim (fun h=>absurd (FZ a4) (by rw[h.1];decide)) id;refine yU 3 ?_;refine dG (EH (p:=0) (q:=k) rfl rfl DC rfl ⟨_,rfl⟩ oM oM) ?_;refine aW 11 (str (s.takeWhile aK)) rfl (by rw[a7,dH]) ?_;refine yU 2 ?_;exact N _ _ _ _ trivial rT rfl rfl
 have a7:s.takeWhile aK=s:=hn.elim (fun h=>h.2) (fun⟨k,h,_⟩=>absurd (LY a4) (by rw[h];simp));refine yU 1 ?_;exact N _ _ _ _ trivial ⟨(zC (fun l=>some (str l)) a7.symm),trivial⟩ rfl rfl
end Go.Proofs.YtekmeaoblpfnpaaGreatDoor
end
namespace Ke
abbrev Row:=List Bs
def pg (s:Bs):Bool→Row→Row
 |true,[]=>[]
 |false,[]=>[s]
 |d,x::r=>if s<x∧d=false then s::x::pg s true r else x::pg s d r
def put (l:Row) (s:Bs):Row:=if s∈l then l else pg s false l
def Inc (l:Row):Prop:=l.Pairwise (· <·)
theorem a4N s:∀l,pg s true l=l
 |[]=>rfl
 |x::r=>by unfold pg;rw[zD sI,a4N s r]
theorem a8d s:∀(l:Row) (x:Bs),x∈pg s false l↔x=s∨x∈l
 |[],x=>by simp[pg]
 |y::r,x=>by
  unfold pg
  by_cases h:s<y
  ·rw[zF ⟨h,rfl⟩,a4N];simp
  rw[zD (fun e=>h e.1),aC,a8d s r x,aC];constructor
  ·rintro(h|h|h)<;>simp[h]
  rintro(h|h|h)<;>simp[h]
theorem c0M{a b:Bs}(h:¬b<a)(N:a≠b):a<b:=by grind
theorem b3L s:∀{l:Row},Inc l→s ∉ l→Inc (pg s false l)
 |[],_,_=>by simp[pg,Inc]
 |y::r,hl,hn=>by
  have O:=aI.1 hl;unfold pg
  by_cases h:s<y
  ·rw[zF ⟨h,rfl⟩,a4N];refine aI.2 ⟨fun z N=>?_,hl⟩;rcases aC.1 N with rfl|N
   ·exact h
   exact iZ h (O.1 z N)
  rw[zD (fun e=>h e.1)];refine aI.2 ⟨fun z N=>?_,b3L s O.2 fun e=>hn (.tail _ e)⟩;rcases(a8d s r z).1 N with rfl|N
  ·exact c0M h fun e=>hn (e▸ .head _)
  exact O.1 z N
theorem put_mem l s x:x∈put l s↔x=s∨x∈l:=by grind [put,a8d]
theorem b8p{l} s (h:Inc l):Inc (put l s):=by grind [put,b3L]
theorem a9l:∀(xs:Row) {l:Row},Inc l→Inc (xs.foldl put l)
 |[],_,h=>h
 |x::r,_,h=>a9l r (b8p x h)
theorem a7y:∀(xs l:Row) (x:Bs),x∈xs.foldl put l↔x∈xs∨x∈l
 |[],_,_=>sI
 |y::r,l,x=>by
  rw[List.foldl_cons,a7y r,put_mem,aC];constructor
  ·rintro(h|h|h)<;>simp[h]
  rintro((h|h)|h)<;>simp[h]
theorem a9n:∀{a b:Row},Inc a→Inc b→(∀x,x∈a↔x∈b)→a=b
 |[],[],_,_,_=>rfl
 |[],y::_,_,_,h=>absurd ((h y).2 (.head _)) sI
 |x::_,[],_,_,h=>absurd ((h x).1 (.head _)) sI
 |x::r,y::t,ha,hb,h=>by
  have N:=aI.1 ha;have O:=aI.1 hb;have a0:x=y:=by
   rcases aC.1 ((h x).1 (.head _))with e|e
   ·exact e
   rcases aC.1 ((h y).2 (.head _))with Z|Z
   ·exact Z.symm
   exact absurd (iZ (O.1 x e) (N.1 y Z)) (fJ _)
  subst a0;rw[a9n N.2 O.2 fun z=>⟨fun W=>?_,fun W=>?_⟩]
  ·rcases aC.1 ((h z).1 (.tail _ W))with rfl|e
   ·exact absurd (N.1 z W) (fJ _)
   exact e
  rcases aC.1 ((h z).2 (.tail _ W))with rfl|e
  ·exact absurd (O.1 z W) (fJ _)
  exact e
structure Sub where
  code:UInt8
  text:Bs
structure GU where
  tag:Bs
  ind:Bs
  data:Bs
  sv:Go.Value
  subs:List Sub
def texts (f:GU) (codes:Bs):Row:=(f.subs.filter fun s=>codes.contains s.code).map (·.text)
def textOf (f:GU) (codes:Bs):Bs:=join (texts f codes)
def skip (f:GU):Nat:=match f.ind[1]? with
 |some c=>if digit c then c.toNat-48 else 0
 |none=>0
end Ke
namespace Go.Proofs.YtekmeaoblpfnpaaGreatDoor
open Go Go.Sx
def OI (s:Ke.Sub):List Value:=[u8 s.code,str s.text]
def JU (f:Ke.GU):List Value:=[str f.tag,str f.ind,str f.data,f.sv]
theorem a0K s:(OI s).length=2:=rfl
theorem a3u f:(JU f).length=4:=rfl
def PN (I:Heap) (fs:List Ke.GU) (v:Value):Prop:=zU JU I fs v∧∀f∈fs,zU OI I f.subs f.sv
theorem PN.mono{I O fs v}(h:PN I fs v)(N:Le I O):PN O fs v:=⟨h.1.mono N,fun f W=>(h.2 f W).mono N⟩
def a7Y (k l:UInt8) (v:Value):Value:= .agg #[u8 k,u8 l,v]
def DX (ss:List Ke.Sub):Nat:=(ss.map (·.text.length)).sum
theorem a5f{base sz n xs ys g}(h:BO base sz n xs g)(N:ys.length=xs.length):BO base sz n ys g:=by
 cases g with
 |none=>
  obtain⟨h1,h2⟩:=h;exact⟨h1,dI.1 (by rw[N,h2];rfl)⟩
 |some q=>
  obtain⟨b,c,sp⟩:=q;obtain⟨h1,h2,h3⟩:=h;exact⟨h1,by rw[N];exact h2,by rw[N];exact h3⟩
theorem b5T{f p n c}(h:f.sv= .slice p n c):(JU f).all Value.oneCell'=true:=by
 unfold JU;rw[h];rfl
def tx (codes:List UInt8) (ss:List Ke.Sub):List (List UInt8):=(ss.filter fun s=>codes.contains s.code).map (·.text)
theorem b9Q codes ss:(tx codes ss).length≤ss.length:=by
 unfold tx;rw[aV];exact dM _ _
theorem PK:∀l:List (List UInt8),(dU l).length≤(l.map fD).sum+l.length
 |[]=>by simp[dU]
 |[a]=>by simp[dU]
 |a::b::r=>by
  have:=PK (b::r);simp only[dU,aN,dY,fU,aO,bH]at this ⊢;omega
theorem b4S codes:∀ss:List Ke.Sub,((tx codes ss).map fD).sum≤DX ss
 |[]=>by simp[tx]
 |s::r=>by
  have:=b4S codes r;unfold tx DX at this ⊢;rw[List.filter_cons]
  split
  ·simp only[dY,fU];omega
  simp only[dY,fU];omega
theorem b1o f codes:(Ke.textOf f codes).length≤DX f.subs+f.subs.length:=by
 have h1:=PK (tx codes f.subs);have h2:=b4S codes f.subs;have h3:=b9Q codes f.subs;have:Ke.textOf f codes=dU (tx codes f.subs):=rfl;rw[this];omega
theorem a6p l c:decide (0≤aY l c)=l.contains c:=by
 induction l with
 |nil=>rfl
 |cons d r N=>
  rw[aY,List.contains_cons];simp only[beq_iff_eq]
  by_cases h:d=c
  ·subst h;simp
  rw[zD h,show(c == d)=false from beq_eq_false_iff_ne.2 (Ne.symm h),Bool.false_or,←N]
  by_cases h0:aY r c<0
  ·have:¬0≤aY r c:=oM;rw[zI this];exact zI (by split<;>omega)
  have:0≤aY r c:=oM;rw[zH this];exact zH (by split<;>omega)
theorem b8o{f}(h:¬1<f.ind.length):Ke.skip f=0:=by
 unfold Ke.skip;rw[fK oM]
end Go.Proofs.YtekmeaoblpfnpaaGreatDoor
section
namespace Go.Proofs.YtekmeaoblpfnpaaGreatDoor
open Go Go.Sx
def KU (I:Heap) (l:List (List UInt8)) (v:Value):Prop:=∃p c,v= .slice p l.length c∧l.length≤c∧(l≠[]→∃b o cs t fr sp,p=some ⟨b,o,none⟩∧I b=some (.cells (List.toArray cs) t fr)∧cs.drop o=l.map str++sp)
theorem a0u{cs sp:List Value}{o}{l:List (List UInt8)}(h:cs.drop o=l.map str++sp){k x}(N:l[k]?=some x):cs[o+k]?=some (str x):=by
 rw[←List.getElem?_drop,h];exact JW N
theorem KU.of{I l v}(h:FK 9 I l v):KU I l v:=by
 rcases h with⟨rfl,rfl⟩|⟨b,c,sp,rfl,N,O⟩
 ·exact⟨none,0,rfl,Nat.le_refl _,fun h=>absurd rfl h⟩
 exact⟨_,c,rfl,N,fun _=>⟨b,0,_,_,_,sp,rfl,O,rfl⟩⟩
theorem KU.mono{I N l v}(h:KU I l v)(O:Le I N):KU N l v:=
 let ⟨p,c,h1,h2,h3⟩:=h;⟨p,c,h1,h2,fun W=>let ⟨b,o,cs,t,fr,sp,Z,h5,h6⟩:=h3 W;⟨b,o,cs,t,fr,sp,Z,O _ _ h5,h6⟩⟩
end Go.Proofs.YtekmeaoblpfnpaaGreatDoor
end
namespace Go.Sx
open Go
def a0v (a:Option Addr) (c j sz:Nat):Option Addr:=if c=j then a else a.map (·.add (j*sz))
section
variable {cx:Cx} {o:Oper} {e:Env} {S:World→Prop}
theorem b4t{x y z}{T E n c sz j k:Nat}{a kl Z O}(ho:o.op= .slice T x (some y) (some z) none)(hx:ev e x=some (.slice a n c))(hy:ev e y=some (.int kl (j:Int)))(hz:ev e z=some (.int Z O))(hu:cx.P.underlying T=some (.slice E))(W:∀w,(sizeOf E).run cx.P w= .ok sz w)(hk:O=(k:Int))(hj:j≤k)(hc:k≤c):
 BJ cx o e S (.slice (a0v a c j sz) (k-j) (c-j)):=by
 intro w0 w N _;subst hk;have h1:(k:Int)≤c:=oM;have h2:(j:Int)≤k:=oM;unfold a0v;simp[execOp,ho,N.eval hx,N.eval hy,N.eval hz,jA,jH,run_underlying hu,iC,run_sliceBound,h1,h2,W]
theorem UF{x y}{T E n c sz j:Nat}{a kl N}(ho:o.op= .slice T x (some y) none none)(hx:ev e x=some (.slice a n c))(hy:ev e y=some (.int kl N))(hu:cx.P.underlying T=some (.slice E))(O:∀w,(sizeOf E).run cx.P w= .ok sz w)(W:N=(j:Int))(hj:j≤n)(hc:n≤c):
 BJ cx o e S (.slice (a0v a c j sz) (n-j) (c-j)):=by
 intro w0 w Z _;subst W;have h1:(j:Int)≤n:=oM;unfold a0v;simp[execOp,ho,Z.eval hx,Z.eval hy,jA,jH,run_underlying hu,iC,run_sliceBound,h1,O]
theorem QA{x z}{T E n c sz k:Nat}{a W N}(Z:o.op= .slice T x none (some z) none)(hx:ev e x=some (.slice a n c))(hz:ev e z=some (.int W N))(hu:cx.P.underlying T=some (.slice E))(O:∀w,(sizeOf E).run cx.P w= .ok sz w)(hk:N=(k:Int))(hc:k≤c):
 BJ cx o e S (.slice a k c):=by
 subst hk;exact a4q Z hx hz hu O hc
end
theorem a5B{α:Type}{f sz}(N:∀x,(f x).length=sz):∀(l:List α) (j:Nat) (sp:List Value),j≤l.length→(l.flatMap f++sp).drop (j*sz)=(l.drop j).flatMap f++sp
 |l,0,sp,_=>sI
 |[],j+1,sp,h=>by simp at h
 |a::r,j+1,sp,h=>by
  rw[List.flatMap_cons,iD,show(j+1)*sz=(f a).length+j*sz by rw[N,Nat.add_mul];omega,←iT,List.drop_left,List.drop_succ_cons];exact a5B N r j sp (by simpa using h)
theorem zU.cut{α:Type}{f:α→List Value}{sz:Nat}(O:∀x,(f x).length=sz){I l a n c}(h:zU f I l (.slice a n c)){j k:Nat}(hj:j≤k)(hk:k≤l.length):zU f I ((l.drop j).take (k-j)) (.slice (a0v a c j sz) (k-j) (c-j)):=by
 obtain⟨_,_,W,_,Z⟩:=h;cases W;refine⟨_,c-j,by rw[aU,eX];congr 1;omega,by rw[aU,eX];omega,fun N=>?_⟩;have a0:j<k:=by
  rcases bJ j k with g|g
  ·exact g
  exact absurd (by rw[show k-j=0 by omega,List.take_zero]) N
 have hl:l≠[]:=fun e=>N (by rw[e];simp);obtain⟨b,o,cs,t,fr,sp,h1,h2,h3⟩:=Z hl;subst h1;refine⟨b,o+j*sz,cs,t,fr,((l.drop j).drop (k-j)).flatMap f++sp,?_,h2,?_⟩
 ·unfold a0v;rw[zD oM,Option.map_some,Addr.add_lit]
 rw[←iT,h3,a5B O l j sp oM,←iD,←List.flatMap_append,List.take_append_drop]
end Go.Sx
namespace Ix
open Ke
abbrev Rec:=Int×Int
def CJ (a b:Rec):Bool:=decide (a.1<b.1) || (decide (a.1=b.1) && decide (a.2<b.2))
theorem UD{a b}:CJ a b=true↔a.1<b.1∨(a.1=b.1∧a.2<b.2):=by simp[CJ]
theorem ER a:CJ a a=false:=by rw[Bool.eq_false_iff,Ne,UD];omega
theorem MG{a b c}(h1:CJ a b=true)(h2:CJ b c=true):CJ a c=true:=by
 rw[UD]at *;omega
theorem XZ a b:CJ a b=true∨a=b∨CJ b a=true:=by grind [UD]
section
variable {β:Type}
abbrev Ls (β:Type):=List (Rec×β)
def AO (l:Ls β):Prop:=l.Pairwise fun a b=>CJ a.1 b.1=true
def JR (t:Rec) (v:β):Ls β→Ls β
 |[]=>[(t,v)]
 |(u,x)::r=>if CJ u t then(u,x)::JR t v r else if u=t then(t,v)::r else(t,v)::(u,x)::r
def KF (t:Rec) (l:Ls β):Ls β:=l.filter fun e=>decide (e.1≠t)
def KJ (l:Ls β) (t:Rec):Option β:=(l.find? fun e=>decide (e.1=t)).map (·.2)
theorem NH t v:∀{l:Ls β},AO l→∀e,e∈JR t v l↔e=(t,v)∨(e∈l∧e.1≠t)
 |[],_,e=>by simp[JR]
 |(u,x)::r,h,e=>by
  have N:=aI.1 h;unfold JR
  by_cases h1:CJ u t=true
  ·rw[zF h1,aC,NH t v N.2,aC];have W:u≠t:=fun g=>by rw[g,ER]at h1;cases h1
   constructor
   ·rintro(g|g|g)
    ·exact .inr ⟨.inl g,by rw[g];exact W⟩
    ·exact .inl g
    exact .inr ⟨.inr g.1,g.2⟩
   rintro(g|⟨g|g,h2⟩)
   ·exact .inr (.inl g)
   ·exact .inl g
   exact .inr (.inr ⟨g,h2⟩)
  rw[zD h1]
  by_cases h2:u=t
  ·rw[zF h2,aC,aC];subst h2;constructor
   ·rintro(g|g)
    ·exact .inl g
    refine .inr ⟨.inr g,fun h3=>?_⟩;have:=N.1 e g;rw[h3]at this;simp only[ER]at this;cases this
   rintro(g|⟨g|g,h3⟩)
   ·exact .inl g
   ·exact absurd (by rw[g]) h3
   exact .inr g
  rw[zD h2,aC];have h3:CJ t u=true:=((XZ u t).resolve_left h1).resolve_left h2;constructor
  ·rintro(g|g)
   ·exact .inl g
   refine .inr ⟨g,fun O=>?_⟩;rcases aC.1 g with g|g
   ·rw[g]at O;exact h2 O
   have:=MG h3 (N.1 e g);rw[O,ER]at this;cases this
  rintro(g|g)
  ·exact .inl g
  exact .inr g.1
theorem SY t v:∀{l:Ls β},AO l→AO (JR t v l)
 |[],_=>List.pairwise_singleton _ _
 |(u,x)::r,h=>by
  have N:=aI.1 h;unfold JR
  by_cases h1:CJ u t=true
  ·rw[zF h1];refine aI.2 ⟨fun e O=>?_,SY t v N.2⟩;rcases(NH t v N.2 e).1 O with g|g
   ·rw[g];exact h1
   exact N.1 e g.1
  rw[zD h1]
  by_cases h2:u=t
  ·rw[zF h2];subst h2;exact aI.2 ⟨fun e O=>N.1 e O,N.2⟩
  rw[zD h2];have h3:CJ t u=true:=((XZ u t).resolve_left h1).resolve_left h2;refine aI.2 ⟨fun e O=>?_,h⟩;rcases aC.1 O with g|g
  ·rw[g];exact h3
  exact MG h3 (N.1 e g)
theorem YF t {l:Ls β}(h:AO l):AO (KF t l):=h.filter _
theorem PV t l (e:Rec×β):e∈KF t l↔e∈l∧e.1≠t:=by simp[KF]
theorem b4X{a b:Ls β}(ha:AO a)(hb:AO b)(h:∀e,e∈a↔e∈b):a=b:=by
 induction a generalizing b with
 |nil=>
  rcases b with _|⟨y,t⟩
  ·rfl
  exact absurd ((h y).2 (.head _)) sI
 |cons x r ih=>
  rcases b with _|⟨y,t⟩
  ·exact absurd ((h x).1 (.head _)) sI
  have N:=aI.1 ha;have O:=aI.1 hb;have a0:x=y:=by
   rcases aC.1 ((h x).1 (.head _))with e|e
   ·exact e
   rcases aC.1 ((h y).2 (.head _))with Z|Z
   ·exact Z.symm
   have:=MG (O.1 x e) (N.1 y Z);rw[ER]at this;cases this
  subst a0;rw[ih N.2 O.2 fun z=>⟨fun W=>?_,fun W=>?_⟩]
  ·rcases aC.1 ((h z).1 (.tail _ W))with rfl|e
   ·have:=N.1 z W;rw[ER]at this;cases this
   exact e
  rcases aC.1 ((h z).2 (.tail _ W))with rfl|e
  ·have:=O.1 z W;rw[ER]at this;cases this
  exact e
theorem b9F{l}(h:AO l){a b:Rec×β}(Z:a∈l)(hb:b∈l)(he:a.1=b.1):a=b:=by
 induction l with
 |nil=>cases Z
 |cons x r ih=>
  have W:=aI.1 h;rcases aC.1 Z with N|N<;>rcases aC.1 hb with O|O
  ·rw[N,O]
  ·have:=W.1 b O;rw[←N,he,ER]at this;cases this
  ·have:=W.1 a N;rw[←O,←he,ER]at this;cases this
  exact ih W.2 N O
theorem a5F{l:Ls β}(h:AO l):(l.map (·.1)).Nodup:=by
 rw[List.nodup_iff_pairwise_ne,eF];exact h.imp fun {a b} g e=>by rw[e,ER]at g;cases g
theorem FT{l}(h:AO l){t:Rec}{v:β}:KJ l t=some v↔(t,v)∈l:=by
 unfold KJ;constructor
 ·intro g;obtain⟨e,N,rfl⟩:=Option.map_eq_some_iff.1 g;have h1:=iM N;have h2:e.1=t:=zA h1;have:=eP N;rw[←h2];exact this
 intro g;have O:(l.find? fun e=>decide (e.1=t)).isSome=true:=by
  rw[List.find?_isSome];exact⟨_,g,sI⟩
 obtain⟨e,N⟩:=Option.isSome_iff_exists.1 O;have h0:=iM N;have h1:e.1=t:=zA h0;have h2:=b9F h (eP N) g h1;rw[N,h2];rfl
theorem a1T{l:Ls β}{t}:KJ l t=none↔∀e∈l,e.1≠t:=by grind [KJ,Option.map_eq_none_iff]
def a6S (es l:Ls β):Ls β:=es.foldl (fun l e=>JR e.1 e.2 l) l
end
end Ix
namespace Ke
def isb (s:Sub):Option Bs:=if (YR s.text).2=true∧s.code=97 then some (YR s.text).1 else none
end Ke
namespace Ix
open Ke
def KC (w:Bs):Bs→List Bs
 |[]=>if w=[]then[]else[w]
 |c::r=>if digit c then KC (w++[c]) r else if w=[]then KC [] r else w::KC [] r
def a6O (s:Bs):List Bs:=KC [] s
def b4i (s:Bs):Option Bs:=(a6O s).find? fun x=>decide (x.length=4)
structure V where
  name:Bs
  text:Bs
  skip:Nat
def V.key (v:V):Bs:=FY v.text v.skip
def V.ws (v:V):Row:=words v.text
def a1c:Bs:=[116,105,116,108,101]
def b1m:Bs:=[97,117,116,104,111,114]
def a3v:Bs:=[115,117,98,106,101,99,116]
def a0a:Bs:=[105,115,98,110]
def b7A:Bs:=[121,101,97,114]
def b9S:Bs:=[97,110,121]
def b1k (f:GU):Bs:=join (f.subs.map (·.text))
def yr (s:Sub):Option Bs:=if s.code=99 then b4i s.text else none
def named (f:GU):Bs×Row:=
 if f.tag=[50,52,53]∨f.tag=[50,52,54]then(a1c,[textOf f [97,98]])
 else if f.tag=[49,48,48]∨f.tag=[49,49,48]∨f.tag=[55,48,48]then(b1m,[textOf f [97]])
 else if f.tag=[54,48,48]∨f.tag=[54,53,48]then(a3v,[textOf f [97,120]])
 else if f.tag=[48,50,48]then(a0a,f.subs.filterMap isb)
 else if f.tag=[50,54,48]then(b7A,f.subs.filterMap yr)
 else([],[])
def b7C (f:GU):Nat:=if f.tag=[50,52,53]then skip f else 0
def b7G (f:GU):Bool:= !([48,48]:Bs).isPrefixOf f.tag && !([57]:Bs).isPrefixOf f.tag
def a6R (f:GU):List V:=(named f).2.map (fun s=>⟨(named f).1,s,b7C f⟩)++if b7G f then[⟨b9S,b1k f,0⟩]else[]
def vals (fs:List GU):List V:=fs.flatMap a6R
abbrev Ix:=Ls (List V)
def within (w:Row):Row→Bool
 |[]=>w.isEmpty
 |x::r=>w.isPrefixOf (x::r) || within w r
def a0c (n:Bs) (w:Row) (vs:List V):Bool:=vs.any fun v=>decide (v.name=n) && within w v.ws
def hasK (n k:Bs) (vs:List V):Bool:=vs.any fun v=>decide (v.name=n) && decide (v.key=k)
def phrase (L:Ix) (n:Bs) (w:Row):List Rec:=if w=[]then[]else(L.filter fun e=>a0c n w e.2).map (·.1)
def word (L:Ix) (n s:Bs):List Rec:=if (words s).length=1 then phrase L n (words s)else[]
def EL (L:Ix) (n k:Bs):List Rec:=if k=[]then[]else(L.filter fun e=>hasK n k e.2).map (·.1)
def keyOf (n s:Bs):Bs:=if (YR s).2=true∧n=a0a then FY (YR s).1 0 else FY s 0
def keysOf (n:Bs) (vs:List V):Row:=((vs.filter fun v=>decide (v.name=n)).map V.key).filter fun k=>decide (k≠[])
def BZ (L:Ix) (n begin:Bs):Row:=((L.flatMap fun e=>keysOf n e.2).filter fun k=>decide (¬k<begin)).foldl put []
def scan (L:Ix) (n s:Bs) (most:Int):List (Bs×Nat):=((BZ L n (keyOf n s)).take most.toNat).map fun k=>(k,(EL L n k).length)
def LX (L:Ix) (t:Rec):Bs:=match KJ L t with
 |none=>[]
 | some vs=>match vs.find? fun v=>decide (v.name=a1c)with
   |none=>[]
   |some v=>v.key
theorem within_iff{w}:∀{l:Row},within w l=true↔w <:+: l
 |[]=>by
  unfold within;rw[List.infix_nil];cases w<;>simp
 |x::r=>by
  unfold within;rw[Bool.or_eq_true,within_iff,List.infix_cons_iff,List.isPrefixOf_iff_prefix]
theorem a0I{x l}:within [x] l=true↔x∈l:=by
 rw[within_iff];constructor
 ·rintro⟨s,t,rfl⟩;simp
 intro h;obtain⟨s,t,rfl⟩:=List.append_of_mem h;exact⟨s,t,sI⟩
theorem b2k{x w l}(h:within (x::w) l=true):x∈l:=by
 rw[within_iff]at h;exact h.subset (.head _)
end Ix
namespace Ix
open Ke
abbrev Pl:=Bs×Bs
def plW (vs:List V):List Pl:=vs.flatMap fun v=>v.ws.map fun w=>(v.name,w)
def UW (vs:List V):List Pl:=vs.flatMap fun v=>if v.key=[]then[]else[(v.name,v.key)]
def cnt (pl:List V→List Pl) (L:Ix) (p:Pl) (t:Rec):Nat:=match KJ L t with
 |none=>0
 |some vs=>(pl vs).count p
def way (f:Pl→Rec→Nat) (t:Rec) (n:Pl→Nat) (p:Pl) (u:Rec):Nat:=if u=t then n p else f p u
theorem a1r{L:Ix}(h:AO L)(t u:Rec)(v:List V):KJ (JR t v L) u=if u=t then some v else KJ L u:=by
 by_cases hu:u=t
 ·rw[zF hu,FT (SY t v h),NH t v h,hu];exact .inl rfl
 rw[zD hu];cases hg:KJ L u with
 |none=>
  rw[a1T]at hg ⊢;intro e N;rcases(NH t v h e).1 N with g|g
  ·rw[g];exact Ne.symm hu
  exact hg e g.1
 |some x=>
  rw[FT h]at hg;rw[FT (SY t v h),NH t v h];exact .inr ⟨hg,hu⟩
theorem a0q{L:Ix}(h:AO L) t u:KJ (KF t L) u=if u=t then none else KJ L u:=by
 by_cases hu:u=t
 ·rw[zF hu,a1T];intro e N;rw[hu];exact((PV t L e).1 N).2
 rw[zD hu];cases hg:KJ L u with
 |none=>
  rw[a1T]at hg ⊢;exact fun e N=>hg e ((PV t L e).1 N).1
 |some x=>
  rw[FT h]at hg;rw[FT (YF t h),PV];exact⟨hg,hu⟩
theorem a7c{pl L}(h:AO L) t v:cnt pl (JR t v L)=way (cnt pl L) t fun p=>(pl v).count p:=by
 funext p u
 unfold cnt way;rw[a1r h]
 by_cases hu:u=t
 ·rw[zF hu,zF hu]
 rw[zD hu,zD hu]
theorem b2Z{pl L}(h:AO L) t:cnt pl (KF t L)=way (cnt pl L) t fun _=>0:=by
 funext p u
 unfold cnt way;rw[a0q h]
 by_cases hu:u=t
 ·rw[zF hu,zF hu]
 rw[zD hu,zD hu]
theorem b5l{pl L t vs}(h:KJ L t=some vs):cnt pl L=way (cnt pl L) t fun p=>(pl vs).count p:=by unfold way cnt;grind
theorem b6U{pl L t}(h:KJ L t=none):cnt pl L=way (cnt pl L) t fun _=>0:=by unfold way cnt;grind
theorem b1Z{L:Ix}(h:AO L)(t:Rec)(v:List V):JR t v (KF t L)=JR t v L:=by grind [PV,b4X,SY,YF,NH]
theorem a3L{pl L}(h:AO L){p ts}(h1:ts.Pairwise fun a b=>CJ a b=true)(h2:∀t,t∈ts↔cnt pl L p t≠0):ts=(L.filter fun e=>decide (p∈pl e.2)).map (·.1):=by
 have key:ts.map (fun t=>(t,()))=((L.filter fun e=>decide (p∈pl e.2)).map fun e=>(e.1,())):=by
  refine b4X (β:=Unit) ?_ ?_ fun e=>?_
  ·unfold AO;rw[eF];exact h1
  ·unfold AO;rw[eF];exact List.Pairwise.filter _ h
  rw[cZ,cZ];constructor
  ·rintro⟨t,N,rfl⟩;have h3:=(h2 t).1 N;unfold cnt at h3;cases hg:KJ L t with
   |none=>rw[hg]at h3;exact absurd rfl h3
   |some vs=>
    rw[hg]at h3;have O:p∈pl vs:=bF.1 (aX.2 h3);exact⟨(t,vs),aS.2 ⟨(FT h).1 hg,zH O⟩,rfl⟩
  rintro⟨⟨t,vs⟩,N,rfl⟩;rw[aS]at N;refine⟨t,(h2 t).2 ?_,rfl⟩;unfold cnt;rw[(FT h).2 N.1];exact aX.1 (bF.2 (zA N.2))
 have:=zC (List.map (·.1)) key;simpa[gG,Function.comp_def]using this
theorem b7U{vs n w}:(n,w)∈plW vs↔a0c n [w] vs=true:=by
 unfold plW a0c;rw[iG,eY];constructor
 ·rintro⟨v,N,h⟩;obtain⟨x,O,W⟩:=cZ.1 h;cases W;exact⟨v,N,by simp[a0I,O]⟩
 rintro⟨v,N,h⟩;rw[bC,zG,a0I]at h;exact⟨v,N,cZ.2 ⟨w,h.2,by rw[h.1]⟩⟩
theorem SG{vs n k}:(n,k)∈UW vs↔k≠[]∧hasK n k vs=true:=by unfold UW hasK;grind
theorem a9U{L}(h:AO L){n w ts}(h1:ts.Pairwise fun a b=>CJ a b=true)(h2:∀t,t∈ts↔cnt plW L (n,w) t≠0):ts=phrase L n [w]:=by
 rw[a3L h h1 h2];unfold phrase;rw[zD sI]
 congr 2
 funext e
 rw[iO,zG,b7U]
theorem b1R{L}(h:AO L){n k ts}(h1:ts.Pairwise fun a b=>CJ a b=true)(h2:∀t,t∈ts↔cnt UW L (n,k) t≠0):ts=EL L n k:=by
 rw[a3L h h1 h2];unfold EL
 by_cases hk:k=[]
 ·rw[zF hk];have:(L.filter fun e=>decide ((n,k)∈UW e.2))=[]:=by
   rw[List.filter_eq_nil_iff];intro e _;rw[zG,SG];exact fun g=>g.1 hk
  rw[this];rfl
 rw[zD hk]
 congr 2
 funext e
 rw[iO,zG,SG];exact⟨fun g=>g.2,fun g=>⟨hk,g⟩⟩
theorem b3h{L} n x w p (N:AO L)(O:∀t vs,KJ L t=some vs→p t=a0c n (x::w) vs):(phrase L n [x]).filter p=phrase L n (x::w):=by
 unfold phrase;rw[zD sI,zD sI,List.filter_map,List.filter_filter]
 congr 1
 refine List.filter_congr fun e W=>?_;have h1:KJ L e.1=some e.2:=(FT N).2 W;show(p e.1 && a0c n [x] e.2)=a0c n (x::w) e.2;rw[O _ _ h1];cases h2:a0c n (x::w) e.2 with
 |false=>rfl
 |true=>
  rw[Bool.true_and];unfold a0c at h2 ⊢;rw[eY]at h2 ⊢;obtain⟨v,Z,h3⟩:=h2;rw[bC]at h3;exact⟨v,Z,by rw[bC];exact⟨h3.1,a0I.2 (b2k h3.2)⟩⟩
end Ix
namespace Ix
open Ke
theorem a4v{n k vs}:k∈keysOf n vs↔(n,k)∈UW vs:=by
 rw[SG];unfold keysOf hasK;rw[aS,cZ,zG,eY];constructor
 ·rintro⟨⟨v,N,rfl⟩,O⟩;rw[aS,zG]at N;exact⟨O,v,N.1,by simp[N.2]⟩
 rintro⟨O,v,N,h⟩;rw[bC,zG,zG]at h;exact⟨⟨v,aS.2 ⟨N,zH h.1⟩,h.2⟩,O⟩
theorem ZC{pl L}(h:AO L){p}:(∃t,cnt pl L p t≠0)↔∃e∈L,p∈pl e.2:=by
 constructor
 ·rintro⟨t,N⟩;unfold cnt at N;cases hg:KJ L t with
  |none=>rw[hg]at N;exact absurd rfl N
  |some vs=>
   rw[hg]at N;exact⟨(t,vs),(FT h).1 hg,bF.1 (aX.2 N)⟩
 rintro⟨⟨t,vs⟩,O,W⟩;refine⟨t,?_⟩;unfold cnt;rw[(FT h).2 O];exact aX.1 (bF.2 W)
theorem TJ L n b:Inc (BZ L n b):=a9l _ iE
theorem OO{L}(h:AO L){n b k}:k∈BZ L n b↔¬k<b∧∃t,cnt UW L (n,k) t≠0:=by
 unfold BZ;rw[a7y,ZC h,aS,iG,zG];constructor
 ·rintro(⟨⟨e,N,O⟩,W⟩|g)
  ·exact⟨W,e,N,a4v.1 O⟩
  cases g
 rintro⟨W,e,N,O⟩;exact .inl ⟨⟨e,N,a4v.2 O⟩,W⟩
theorem PL{L}(h:AO L){n b ls}(h1:Inc (ls.map (·.1)))(h2:∀k,k∈ls.map (·.1)↔¬k<b∧∃t,cnt UW L (n,k) t≠0)(h3:∀x∈ls,x.2=(EL L n x.1).length):ls=(BZ L n b).map fun k=>(k,(EL L n k).length):=by
 have N:ls.map (·.1)=BZ L n b:=a9n h1 (TJ L n b) fun k=>by rw[h2,OO h]
 rw[←N,gG]
 conv=>lhs;rw[←List.map_id ls]
 refine dS fun x O=>?_;show x=(x.1,(EL L n x.1).length);rw[←h3 x O]
theorem a5l L n s N:((BZ L n (keyOf n s)).map fun k=>(k,(EL L n k).length)).take N.toNat=scan L n s N:=by
 unfold scan;rw[←List.map_take]
theorem b5S{L}(h:AO L){n k}{ts:List Rec}(W:ts.Nodup)(h2:∀t,t∈ts↔cnt UW L (n,k) t≠0):ts.length=(EL L n k).length:=by
 have O:(EL L n k).Nodup:=by
  unfold EL
  split
  ·exact .nil
  exact(a5F h).sublist (List.filter_sublist.map _)
 refine List.Perm.length_eq ((List.perm_ext_iff_of_nodup W O).2 fun t=>?_);rw[h2];unfold EL
 by_cases hk:k=[]
 ·rw[zF hk];refine⟨fun g=>?_,fun g=>by cases g⟩;obtain⟨e,_,Z⟩:=(ZC h).1 ⟨t,g⟩;exact absurd hk (SG.1 Z).1
 rw[zD hk,cZ];constructor
 ·intro g;unfold cnt at g;cases hg:KJ L t with
  |none=>rw[hg]at g;exact absurd rfl g
  |some vs=>
   rw[hg]at g;have:=SG.1 (bF.1 (aX.2 g));exact⟨(t,vs),aS.2 ⟨(FT h).1 hg,this.2⟩,rfl⟩
 rintro⟨⟨u,vs⟩,N,rfl⟩;rw[aS]at N;unfold cnt;rw[(FT h).2 N.1];exact aX.1 (bF.2 (SG.2 ⟨hk,N.2⟩))
end Ix
namespace Ix
open Ke
def a1g:List Bs:=[[69,109,109,97],
 [84,104,101,32,115,101,97],
 [195,156,98,101,114,32,100,101,110,32,70,108,117,195,159],
 [87,97,114,32,97,110,100,32,112,101,97,99,101],
 [119,97,114,32,38,32,80,69,65,67,69],
 [65,117,115,116,101,110,44,32,74,97,110,101],
 [84,111,108,115,116,111,121],
 [49,57,56,52],
 [57,55,56,48,51,48,54,52,48,54,49,53,55],
 [48,51,48,54,52,48,54,49,53,50],
 [76,111,110,100,111,110],
 [83,101,97,32,115,116,111,114,105,101,115],
 [65],
 [],
 [69,109,109,97,32,97,110,100,32,116,104,101,32,115,101,97],
 [49,57,57,57],
 [99,49,57,57,57,46],
 [82,105,118,101,114,115],
 [79,99,101,97,110,115,32,45,45,32,72,105,115,116,111,114,121],
 [112,101,97,99,101]]
def a4u:List Bs:=[[48,48,49],
 [50,52,53],
 [49,48,48],
 [48,50,48],
 [54,53,48],
 [55,48,48],
 [50,54,48],
 [53,48,48],
 [57,48,48],
 [57,52,57],
 [48,48,56],
 [50,52,54],
 [54,48,48],
 [49,49,48],
 [52,57,48],
 [48,48,51],
 [57,122,57],
 [50,52],
 [57,57,57],
 [48]]
def TM:List Bs:=[[49,48],
 [32,32],
 [49,32],
 [48,48],
 [48,32],
 [32,48],
 [51,32],
 [49,50]]
def a7f:Bs:=[97,98,99,48,97,118,120,113]
def a0b (n:Int):Bs:=a1g.getD (n % 20).toNat []
def KR (n:Int):Bs:=a4u.getD (n % 20).toNat []
structure Four where
  x0:Int
  x1:Int
  x2:Int
  x3:Int
def b1r (q:Four) (j:Nat):Sub:=⟨a7f.getD ((q.x2.tdiv 3+(j:Int)*(1+q.x1 % 3)) % 8).toNat 0,a0b (gJ .i64 (q.x3+3*(j:Int)))⟩
def isC (t:Bs):Prop:=1<t.length∧t.take 2=[48,48]
instance (t:Bs):Decidable (isC t):=by unfold isC;exact inferInstance
def a1p (q:Four):GU:=if isC (KR q.x0)then⟨KR q.x0,[],a0b q.x3,.slice none 0 0,[]⟩
 else⟨KR q.x0,TM.getD (q.x1 % 8).toNat [],[],.slice none 0 0,(List.range (1+(q.x2 % 3).toNat)).map fun j=>b1r q j⟩
def OY (l:List Four):List GU:=(l.take 20).map a1p
structure KO where
  drop:Bool
  src:Int
  num:Int
  fs:List Four
def KO.title (a:KO):Rec:=(a.src,a.num)
def KO.record (a:KO):List GU:=OY (a.fs.take 8)
def KO.vs (a:KO):List V:=vals a.record
def act (L:Ix) (a:KO):Ix:=if a.drop=true then KF a.title L else JR a.title a.vs L
def play (l:List KO):Ix:=(l.take 20).foldl act []
theorem b0p{L}(h:AO L) a:AO (act L a):=by grind [act,YF,SY]
theorem a3g:∀(l:List KO) {L:Ix},AO L→AO (l.foldl act L)
 |[],_,h=>h
 |a::r,_,h=>a3g r (b0p h a)
theorem b5m l:AO (play l):=a3g _ iE
theorem b2M n:(a0b n).length≤17:=by
 unfold a0b;generalize (n % 20).toNat=k;rcases bJ k 20 with h|h
 ·have:∀k,k<20→(a1g.getD k []).length≤17:=dE;exact this k h
 rw[List.getD_eq_getElem?_getD,fK (by simpa[a1g]using h)];simp
