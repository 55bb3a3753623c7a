/-
  Own texts on the laws of the seat, joined: the logic, and contracts of functions. Conditions: none.
-/
import Derived.Test.YtekmeaoblpfnpaaGreatDoorNmR
import Derived.Test.YtekmeaoblpfnpaaGreatDoorPR4
import Derived.Lib.Join
import Derived.Lib.SlTrimSet
import Derived.Shelf.Strings.SlTrimAscii
import Derived.Lib.SlicesCompact
set_option linter.all false
set_option maxRecDepth 100000
set_option maxHeartbeats 40000000
open List renaming getElem?_eq_some_iff -> aA,length_append -> aC,take_succ_eq_append_getElem -> aF,length_cons -> aO,perm_middle -> aP,take_of_length_le -> aQ,length_nil -> aW,length_take -> aY,all_eq_true -> aZ,length_map -> bG,mem_cons -> bH,take_length -> bI,nil_sublist -> bM,pairwise_cons -> bZ,drop_zero -> dB,map_append -> dJ,length_eq_zero_iff -> dM,getElem?_map -> dP,map_cons -> dQ,length_filter_le -> dS,takeWhile_prefix -> dU,take_append_drop -> dV,take_append_of_le_length -> eF,drop_succ_cons -> eG,length -> eU,takeWhile_cons_of_pos -> eX,append_assoc -> eY,mem_reverse -> fG,length_drop -> fH,cons_append -> fJ,append_nil -> fP,dropLast_eq_take -> fV,lt_irrefl -> gB,mem_of_mem_take -> gI,sum_cons -> gK,dropWhile_cons -> gQ,map_congr_left -> gU,take_succ_cons -> gW,all_takeWhile -> iC,length_tail -> iL,all_append -> iP,mem_filter -> iQ,drop_drop -> iW,all_cons -> jB,lt_trans -> jC
open Ke renaming strip -> aB,norm -> aG,okb -> aS,join -> aV,digits -> aX,check -> bT,OT -> bU,words -> cO,digit -> cZ,NG -> dF,val -> dG,pO -> dH,FX -> dI,DK -> dY,ED -> eP,rows -> fC,cutAt -> fF,pX -> fM,wM -> fO,rep -> iD,b6L -> iK,SA -> iR,char -> iT,number -> iZ,a2I -> jI
open Go.Proofs.Tryz renaming prog -> aH,func127 -> jE
open Go.Utf8 renaming decode -> aI,encode -> aN,valid -> fB
open Go.Sx.xM renaming one -> aJ
open UInt8 renaming ofNat -> aK,ofNat_toNat -> dN,toNat_inj -> dZ
open Go.Sx.J renaming ev -> aT,z -> bK,op -> bP,perm -> dD,persist -> gX
open Nat renaming zero_le -> aU,lt_or_ge -> bQ,min_eq_left -> dK,mul_le_mul -> eH,le_of_ble_eq_true -> fZ,zero_add -> gZ,le_refl -> iJ
open Bool renaming noConfusion -> bC,and_eq_true -> dR
open Go.Lib renaming indexByte -> bD,trimS -> gY,joinTail -> iM,validRune -> jA,join -> jJ
open Go.Value renaming int -> bF
open Go.Sx.Ej renaming round -> bJ,keep -> bW,b2j -> iI
open Go.Sx.Cj renaming loop -> bV,qC -> dW,cond -> iE
open Int renaming natCast_mul -> bY
open List.Sublist renaming cons -> dA,refl -> iG
open Go.Sx.Pure renaming of_same -> dL,of_below -> gJ
open Go.Sx.JA renaming zt -> dX,ev -> fK
open Go.Sx.jO renaming toPure -> fA
open Go.Sx.Keeps renaming d -> fD,k -> fE,r -> iU
open Go.Ending renaming returned -> fQ
open Go.Sx.lS renaming z -> fU
open Eq renaming trans -> gG,symm -> iF
open Go.Instr renaming sliceBounds -> iH,sliceAt -> jD,slice -> jK
open Go.Sx.Pull renaming z -> iO,s -> jF
open Go.IntKind renaming signed -> iV,wrap -> jG,bits -> jH,u8 -> jL
open Go.Sx.Src renaming slice -> iY
section
namespace Go.Proofs.YtekmeaoblpfnpaaGreatDoor
open _root_.Go.Proofs.Tryz
open Go Go.Sx
theorem b0l s c I:Pure aH 298 [str s,str [c]] I (i64 (bD s c)):=
 dL (Enters.of func298 dE rfl) fun w _=>by
  have h:=Tryz.stringslite_Index_one ⟨s.toArray⟩ c w;rw[uP]at h;exact h
theorem b4M s c (O:s.length≤1000000000) I:Pure aH 266 [str s,str [c]] I (.tuple #[str (fF c s).1,str (fF c s).2.1,.bool (fF c s).2.2]):=by
 refine jU func266 fun w0 _=>?_;refine kC (b0l s c _) ?_;refine jS ?_ ?_<;>intro A G
 ·obtain⟨n,M,_,N⟩:=(Ke.SG c s).resolve_left (fun h=>by have:=mO A;omega);refine Cj.ev 7 (i64 (n:Int)) rfl (zC i64 M) ?_;refine jL 1 ?_;refine dW [] [] 12 kR ?_;refine jL 2 ?_;refine dX 2 rfl (lN (p:=0) (q:=n) rfl rfl lM rfl ⟨_,rfl⟩ oM oM) ?_;refine fK 15 (str (s.take n)) rfl (by rw[dB]) ?_;refine jL 4 ?_;refine dX 7 rfl (zT rfl rfl rfl (qW (by simp only[aO,aW];omega))) ?_;refine dX 8 rfl (lN (p:=n+1) (q:=s.length) rfl rfl lM ⟨_,rfl⟩ rfl oM oM) ?_;refine fK 21 (str (s.drop (n+1))) rfl (by rw[bI]) ?_;refine jL 7 ?_;refine Ej.b1J rfl rfl rfl rfl rfl ?_;refine⟨?_,rfl,rfl⟩;rw[N]
 have g:=(Ke.SG c s).resolve_right (fun⟨n,h,_⟩=>by have:=nM A;omega);refine jL 11 ?_;refine Ej.b1J rfl rfl rfl rfl rfl ?_;refine⟨?_,rfl,rfl⟩;rw[g.2];rfl
theorem b5Q s c (A:s.length≤1000000000) I:Pure aH 233 [str s,str [c]] I (.tuple #[str (fF c s).1,str (fF c s).2.1,.bool (fF c s).2.2]):=by
 refine jU func233 fun w0 _=>?_;refine kC (b4M s c A _) ?_;refine jL 9 ?_;refine Ej.b1J rfl rfl rfl rfl rfl ?_;exact rT
theorem a5B M W I (a0:I M=some (jM 9 (iK.map str))):jO aH 182 [.slice (some ⟨M,0,none⟩) 31 W] I []
 (fun e I' H'=>∃tb,e= .returned (.map (some tb))∧H'=[(tb,kG (fun a:Int=>bF .i32 a) (iR Ke.tab) 207)]):=by
 refine jU func182 fun w0 _=>?_;refine jL 7 ?_;refine bP rfl (kS rfl rfl rfl ?_);intro G _;refine jL 12 ?_;refine bV (ι:=Nat) (fun k=>k≤31) (fun k=>31-k) (fun k=>[(3,.map (some G)),(12,.slice (some ⟨M,0,none⟩) 31 W),(13,.int .i64 ((31:Nat):Int)),(14,i64 (k:Int))]) (fun k=>_) (fun k=>[(G,kG (fun a:Int=>bF .i32 a) (iR (fM (fC.take k))) (fM (fC.take k)).length)]) 0 (aU _) rT rfl rfl ?_;intro k _;refine jS ?_ ?_<;>intro Q Z
 ·have a1:k<31:=by have:=mO Q;omega
  obtain⟨⟨a,b⟩,A⟩:∃p,fC[k]?=some p:=⟨_,kW (show k<fC.length from a1)⟩;obtain⟨ha,a2,a3⟩:=Ke.a2r _ (lX A);have a4:(iK.map str)[k]?=some (str (a++32::b)):=by simp[iK,A]
  refine kJ k ?_;refine bK (jP rfl rfl lQ (jR.EH a0) a4) ?_;refine kC (b5Q (a++32::b) 32 (by dsimp only at a2 a3;simp;omega) _) ?_;refine aT 20 (.tuple #[str a,str b,.bool true]) rfl (by rw[Ke.a1n ha]) ?_;refine jL 12 ?_;refine bP rfl (MF rfl rfl rfl rfl lM ?_);intro b3 _;refine jL 3 ?_;refine bV (ι:=Nat×List Nat) (fun j=>j.1≤b.length∧Ke.runes b=j.2++Ke.runes (b.drop j.1)) (fun j=>b.length-j.1) (fun j=>[(3,.map (some G)),(6,str a),(12,.slice (some ⟨M,0,none⟩) 31 W),(13,.int .i64 ((31:Nat):Int)),(14,i64 (k:Int)),(25,ptr b3 0)]) (fun j=>_) (fun j=>[(b3,.stringIter ⟨b.toArray⟩ j.1),(G,kG (fun a:Int=>bF .i32 a) (iR (fM (fC.take k)++j.2.map (·,a))) (fM (fC.take k)++j.2.map (·,a)).length)]) (0,[]) ⟨aU _,rfl⟩ rT rfl sI ?_;rintro⟨i,x⟩ ⟨hi,N⟩;dsimp only at hi N ⊢;rcases bQ i b.length with O|O
  ·have hw:=fO b O;have S:=Ke.fresh A (Ke.VB N O);refine jL 2 ?_;refine bP rfl (TS 0 rfl rfl rfl rfl rfl (by rw[size_mk];omega) fU ?_);refine jL 18 ?_;refine bP rfl (nY (kv:=fun a:Int=>bF .i32 a) (a:=((aI ⟨b.toArray⟩ i).1:Int)) 1 (.inr rfl) rfl rfl rfl rfl rfl underlying200 (mY.int a7m) rfl (lS.s fU) ?_);rw[(Ke.a4M (s:=a) S).1,(Ke.a4M (s:=a) S).2];refine jL 2 ?_;refine bJ (i+(aI ⟨b.toArray⟩ i).2,x++[(aI ⟨b.toArray⟩ i).1]) ⟨hw.2,Ke.a4P N O⟩ dO rT rfl (by simp only[dJ,dQ,List.map_nil,eY])

  refine jL 2 ?_;refine bP rfl (EP 0 rfl rfl rfl rfl rfl (by rw[size_mk];omega) ?_);refine jL 15 ?_;refine bW (fD (fE Keeps.n)) ?_;refine bJ (k+1) oM oM rT rfl (by rw[Ke.UZ A,Ke.a8e N oM])
 refine jL 12 ?_;obtain rfl:k=31:=oM;refine jV ?_;have he:fM (fC.take 31)=Ke.tab:=by rw[aQ dE];exact Ke.ZH
 refine⟨G,rfl,?_⟩;rw[he];rfl
theorem b3k:jM 9 (iK.map str)=jM 9 [str [97,32,195,160,195,161,195,162,195,163,195,164,195,165,196,129,196,131,196,133,195,128,195,129,195,130,195,131,195,132,195,133,196,128,196,130,196,132],str [99,32,195,167,196,135,196,137,196,139,196,141,195,135,196,134,196,136,196,138,196,140],str [100,32,196,143,196,145,195,176,196,142,196,144,195,144],str [101,32,195,168,195,169,195,170,195,171,196,147,196,149,196,151,196,153,196,155,195,136,195,137,195,138,195,139,196,146,196,148,196,150,196,152,196,154],str [103,32,196,157,196,159,196,161,196,163,196,156,196,158,196,160,196,162],str [104,32,196,165,196,167,196,164,196,166],str [105,32,195,172,195,173,195,174,195,175,196,169,196,171,196,173,196,175,196,177,195,140,195,141,195,142,195,143,196,168,196,170,196,172,196,174,196,176],str [106,32,196,181,196,180],str [107,32,196,183,196,182],str [108,32,196,186,196,188,196,190,197,130,196,185,196,187,196,189,197,129],str [110,32,195,177,197,132,197,134,197,136,195,145,197,131,197,133,197,135],str [111,32,195,178,195,179,195,180,195,181,195,182,195,184,197,141,197,143,197,145,198,161,195,146,195,147,195,148,195,149,195,150,195,152,197,140,197,142,197,144,198,160],str [114,32,197,149,197,151,197,153,197,148,197,150,197,152],str [115,32,197,155,197,157,197,159,197,161,197,154,197,156,197,158,197,160],str [116,32,197,163,197,165,197,167,197,162,197,164,197,166],str [117,32,195,185,195,186,195,187,195,188,197,169,197,171,197,173,197,175,197,177,197,179,198,176,195,153,195,154,195,155,195,156,197,168,197,170,197,172,197,174,197,176,197,178,198,175],str [119,32,197,181,197,180],str [121,32,195,189,195,191,197,183,195,157,197,184,197,182],str [122,32,197,186,197,188,197,190,197,185,197,187,197,189],str [97,101,32,195,166,195,134],str [111,101,32,197,147,197,146],str [115,115,32,195,159],str [116,104,32,195,190,195,158],str [206,177,32,206,172,206,134],str [206,181,32,206,173,206,136],str [206,183,32,206,174,206,137],str [206,185,32,206,175,207,138,206,144,206,138,206,170],str [206,191,32,207,140,206,140],str [207,133,32,207,141,207,139,206,176,206,142,206,171],str [207,137,32,207,142,206,143],str [208,181,32,209,145,208,129]]:=kR
theorem a8w I:jO aH 128 [] I [] (fun e Q H'=>∃tb,e= .returned (.map (some tb))∧H'=[(tb,kG (fun a:Int=>bF .i32 a) (iR Ke.tab) 207)]):=by
 refine jO.ob func128 ?_;intro w0 _;refine Cj.sr (J.as ?_);refine J.yC (bP rfl (jY rfl rfl rfl lJ kU yN rfl rfl rfl rfl (aJ rfl (aJ rfl (aJ rfl (aJ rfl (aJ rfl (aJ rfl (aJ rfl (aJ rfl (aJ rfl (aJ rfl (aJ rfl (aJ rfl (aJ rfl (aJ rfl (aJ rfl (aJ rfl (aJ rfl (aJ rfl (aJ rfl (aJ rfl (aJ rfl (aJ rfl (aJ rfl (aJ rfl (aJ rfl (aJ rfl (aJ rfl (aJ rfl (aJ rfl (aJ rfl (aJ rfl xM.none))))))))))))))))))))))))))))))) ?_));intro O M;refine gX M (fun _ _ A=>?_);refine bP rfl (kT (H1:=[]) rfl rfl rfl rfl rfl (a5B O _ _ (by rw[b3k];exact A)) ?_ (fun _ _ _ _ ⟨_,h,_⟩=>by cases h) (fun _ _ ⟨_,h,_⟩=>by cases h));intro _ _ _ G N;have A:=G _ _ A;obtain⟨tb,h,rfl⟩:=N;cases h;refine J.as ?_;refine J.ns (Cj.ret ?_);refine Ej.MX rfl rfl rfl ?_;exact⟨tb,rfl,rfl⟩
end Go.Proofs.YtekmeaoblpfnpaaGreatDoor
end
namespace Ke
theorem KQ c:(enc c).length≤4:=by grind [enc]
theorem sK:tab.all (fun p=>decide (p.2.length≤4))=true:=by decide +kernel
theorem MP:∀{l:List (Nat×Bs)} {c:Nat} {s:Bs},l.lookup c=some s→∃p∈l,p.2=s
 |[],_,_,h=>by cases h
 |(a,b)::r,c,s,h=>by
  rw[List.lookup_cons]at h
  split at h
  ·cases h;exact⟨_,.head _,rfl⟩
  obtain⟨p,h1,h2⟩:=MP h;exact⟨p,.tail _ h1,h2⟩
theorem OE c:(char c).length≤4:=by
 unfold char
 split
 ·exact KQ c
 split
 ·exact KQ _
 split
 ·simp
 split
 ·simp
 split
 ·rename_i s A
  obtain⟨p,h1,rfl⟩:=MP A;exact zA (aZ.1 sK p h1)
 split
 ·exact KQ _
 split
 ·exact KQ _
 split
 ·exact KQ _
 simp
theorem ZX w:wf w []=if w=[]then[]else[w]:=rfl
theorem b3A{c}(h:char c≠[32]) w r:wf w (c::r)=wf (w++char c) r:=by
 show(if char c=[32]then _ else _)=_;rw[zD h]
theorem a8W{c}(h:char c=[32]){w}(A:w≠[]) r:wf w (c::r)=w::wf [] r:=by
 show(if char c=[32]then(if w=[]then _ else _)else _)=_;rw[zF h,zD A]
theorem a6t{c}(h:char c=[32]) r:wf [] (c::r)=wf [] r:=by
 show(if char c=[32]then(if ([]:Bs)=[]then _ else _)else _)=_;rw[zF h,zF rfl]
theorem drop_at{α:Type}{l:List α}{k x r}(h:l.drop k=x::r):l[k]?=some x∧l.drop (k+1)=r:=by
 have h1:=zC List.head? h;have h2:=zC List.tail h;rw[List.head?_drop]at h1;rw[List.tail_drop]at h2;exact⟨h1,h2⟩
structure vX (s:Bs) (i k:Nat) (w:Bs):Prop where
  le:i≤s.length
  wl:w.length≤4*i
  kl:k≤(words s).length
  eq:(words s).drop k=wf w (runes (s.drop i))
theorem vX.start s:vX s 0 0 []:=⟨aU _,aU _,aU _,rfl⟩
theorem vX.in{s i k w}(h:vX s i k w)(A:i<s.length)(G:char (aI ⟨s.toArray⟩ i).1≠[32]):vX s (i+(aI ⟨s.toArray⟩ i).2) k (w++char (aI ⟨s.toArray⟩ i).1):=by
 obtain⟨h1,h2⟩:=wM s A;refine⟨h2,?_,h.kl,by rw[h.eq,IE A,b3A G]⟩;have:=OE (aI ⟨s.toArray⟩ i).1;have:=h.wl;rw[aC];omega
theorem vX.b7k{s i k}(h:vX s i k [])(A:i<s.length)(G:char (aI ⟨s.toArray⟩ i).1=[32]):vX s (i+(aI ⟨s.toArray⟩ i).2) k []:=by
 obtain⟨h1,h2⟩:=wM s A;exact⟨h2,sI,h.kl,by rw[h.eq,IE A,a6t G]⟩
theorem vX.out{s i k w}(h:vX s i k w)(A:i<s.length)(N:char (aI ⟨s.toArray⟩ i).1=[32])(O:w≠[]):(words s)[k]?=some w∧vX s (i+(aI ⟨s.toArray⟩ i).2) (k+1) []:=by
 obtain⟨h1,h2⟩:=wM s A;have G:=h.eq;rw[IE A,a8W N O]at G;obtain⟨M,Q⟩:=drop_at G;exact⟨M,h2,sI,(aA.1 M).1,Q⟩
theorem vX.last{s i k w}(h:vX s i k w)(O:¬i<s.length)(M:w≠[]):(words s)[k]?=some w∧k+1=(words s).length:=by
 have A:=h.eq;rw[DT oM,ZX,zD M]at A;obtain⟨G,N⟩:=drop_at A;have:=zC eU N;have:=(aA.1 G).1;simp at *;exact⟨G,oM⟩
theorem vX.BO{s i k}(h:vX s i k [])(G:¬i<s.length):k=(words s).length:=by
 have A:=h.eq;have:=h.kl;rw[DT oM,ZX,zF rfl]at A;have:=zC eU A;simp at this;omega
def total:List Bs→Nat
 |[]=>0
 |a::r=>a.length+total r
theorem RJ:∀(r:List Nat) (w:Bs),(wf w r).length≤r.length+1∧total (wf w r)≤w.length+4*r.length
 |[],w=>by
  unfold wf
  split
  ·exact⟨sI,by simp[total]⟩
  exact⟨sI,by simp[total]⟩
 |c::r,w=>by
  unfold wf;have h0:=RJ r []
  split
  ·split
   ·simp only[aO,aW]at *;omega
   simp only[aO,aW,total]at *;omega
  have h1:=RJ r (w++char c);have h2:=OE c;simp only[aO,aC]at *;omega
theorem yD:∀l:List Bs,(join l).length≤total l+l.length
 |[]=>by simp[join]
 |[a]=>by simp[join,total]
 |a::b::r=>by
  have:=yD (b::r);simp only[join,total,aC,aO,aW]at *;omega
theorem qX s:(words s).length≤s.length+1∧(join (words s)).length≤5*s.length+1:=by grind [words,runes,aW,RJ,yD,DN]
theorem xB s:∀w∈words s,w.length≤4*s.length:=by
 have h:∀(l:List Bs),∀w∈l,w.length≤total l:=by
  intro l
  induction l with
  |nil=>intro w A;cases A
  |cons a r G=>
   intro w A;rcases bH.1 A with rfl|A
   ·simp[total]
   have:=G w A;simp only[total];omega
 intro w A;have h1:=(RJ (runes s) []).2;have h3:=DN s.length s;have M:=h _ w A;unfold words runes at *;simp only[aW]at h1;omega
theorem a3Q:∀l:List Bs,jJ l [32]=join l
 |[]=>rfl
 |[a]=>Go.Lib.join_one a [32]
 |a::b::r=>by
  have h:=a3Q (b::r);rw[Go.Lib.join_cons]at h ⊢;show a++iM [32] (b::r)=a++[32]++join (b::r);rw[←h];simp[iM]
def KC:Bs:=[48,49,50,51,52,53,54,55,56,57]
theorem YK c:KC.contains c=digit c:=by
 have h:∀n<256,KC.contains (aK n)=digit (aK n):=by decide +kernel
 have:=h c.toNat c.toNat_lt
 rwa [dN]at this
theorem NP{p c}:∀{l:Bs},c∈l→p c=false→c∈l.dropWhile p
 |[],h,_=>by cases h
 |d::r,h,hp=>by
  rw[gQ]
  split
  ·rename_i A
   rcases bH.1 h with rfl|h
   ·rw[hp]at A;cases A
   exact NP h hp
  exact h
theorem a3B{p}:∀{l:Bs},(∀c∈l,p c=true)→l.dropWhile p=[]
 |[],_=>rfl
 |d::r,h=>by rw[List.dropWhile_cons_of_pos (h d (.head _))];exact a3B fun c A=>h c (.tail _ A)
theorem UE s:(gY s KC == [])=digits s:=by
 unfold gY Go.Lib.trimLeftS Go.Lib.trimRightS digits;cases hd:s.all digit with
 |true=>
  have h:∀c∈s.reverse,KC.contains c=true:=fun c A=>by rw[YK];exact aZ.1 hd c (fG.1 A)
  rw[a3B h];rfl
 |false=>
  obtain⟨c,A,G⟩:∃c∈s,digit c=false:=by
   have:=List.all_eq_false.1 hd;obtain⟨c,A,G⟩:=this;exact⟨c,A,by simpa using G⟩
  have h1:KC.contains c=false:=by rw[YK];exact G
  have h2:=NP (p:=(KC.contains ·)) (fG.2 (NP (p:=(KC.contains ·)) (fG.2 A) h1)) h1;rw[beq_eq_false_iff_ne];intro M;rw[M]at h2;cases h2
theorem dropLast_take(w:Bs):w.take (w.length-1)=w.dropLast:=by rw[fV]
theorem a2o w:(strip w).length≤w.length+1:=by
 unfold strip;have h:∀(l:Bs) (p:UInt8→Bool),(l.dropWhile p).length≤l.length:=by
  intro l p
  induction l with
  |nil=>simp
  |cons a r A=>rw[gQ];split<;>simp only[aO]<;>omega
 have:=h w.dropLast (· == 48);rw[aC,fH];rw[List.length_dropLast]at this;omega
theorem a4r w:(pO w).length≤w.length+3:=by grind [pO,number,aC,aO,aW,a2o]
theorem VY s:(join ((words s).map pO)).length≤8*s.length+4:=by
 have h1:=RJ (runes s) [];have h3:=DN s.length s;have h2:=yD ((words s).map pO);have A:∀l:List Bs,total (l.map pO)≤total l+3*l.length:=by
  intro l
  induction l with
  |nil=>simp[total]
  |cons a r G=>
   have:=a4r a;simp only[dQ,total,aO];omega
 have M:=A (words s);rw[bG]at h2;unfold words runes at *;simp only[aW]at h1;omega
end Ke
section
namespace Go.Proofs.YtekmeaoblpfnpaaGreatDoor
open Go Go.Sx
theorem a6x b l p g (A:kZ 0 1 l.length (mQ l) g) I:jO aH 131 [ptr b 0] I (sU b l p g) (fun e G H'=>e= .returned (i64 l.length)∧H'=sU b l p g):=
 (jO.frame (gH 5 (mQ l) g) (b5W b _ l.length g A I)).mono fun _ _ _ _ ⟨H1,h1,h2,h3⟩=>⟨h2,by rw[h1,h3];rfl⟩
theorem a1r b x y R I:jO aH 133 [ptr b 0] I ((b,jM 204 [x,y])::R) (fun e A H'=>e= .returned (.tuple #[])∧H'=sU b [] false none):=
 (jO.frame R (b1Z b x y I)).drop fun _ _ _ ⟨H1,h1,h2,h3⟩=>⟨_,by rw[h1,h3];exact List.sublist_append_left _ _,h2,rfl⟩
structure WSt where
  i:Nat
  w:List UInt8
  p:Bool
  g:Gs
  k:Nat
  I:Heap
  H:HL
theorem a1i sb s (hs:s.length≤1000000000) I (A:I sb=some (jM 9 [str s])):Gen aH 127 [] [ptr sb 0] I ((cO s).map fun w=>[str w]):=by
 refine⟨Enters.of jE dE rfl,fun l Y Z M ah H a7=>?_⟩;refine jU jE fun w0 _=>?_;refine sV (a8w _) ?_;intro _ I3 _ ab ar au;have A:=ab _ _ A;obtain⟨tb,h,rfl⟩:=au;cases h;have a7:=M _ _ _ _ ab a7;refine gX (ar _ (.head _)) (fun _ ac G=>?_);have A:=ac _ _ A;have a7:=M _ _ _ _ ac a7;refine jL 6 ?_;intro b7 _;refine jL 6 ?_;refine bP rfl (MF rfl rfl rfl rfl lM ?_);intro b8 _;refine jL 3 ?_;refine bV (ι:=WSt) (fun j=>Ke.vX s j.i j.k j.w∧kZ 0 1 j.w.length (mQ j.w) j.g∧(Tab j.I tb∧j.I sb=some (jM 9 [str s]))∧Y j.k j.I j.H) (fun j=>s.length-j.i) (fun j=>[(0,.func (.yield l) #[] #[]),(3,.map (some tb)),(4,ptr b7 0),(10,ptr b8 0)]) (fun j=>j.I) (fun j=>(b8,.stringIter ⟨s.toArray⟩ j.i)::(sU b7 j.w j.p j.g++j.H)) ⟨0,[],false,none,0,_,H⟩ ⟨Ke.vX.start s,⟨rfl,rfl⟩,⟨G,A⟩,a7⟩ rT rfl rfl ?_;rintro⟨i,w,p,g,k,I,H⟩ ⟨W,hg,⟨G,A⟩,N⟩;dsimp only at W hg G A N ⊢;have ay:=W.wl;have az:=W.le;rcases bQ i s.length with hp|hp
 ·have hd:=fO s hp;have av:=Ke.decode_le s i;refine jL 2 ?_;refine bP rfl (TS 0 rfl rfl rfl rfl rfl (by rw[size_mk];omega) fU ?_);refine kC (b3P _ tb av _ G) ?_;refine jS ?_ ?_<;>intro a8 af
  ·have hc:iT (aI ⟨s.toArray⟩ i).1≠[32]:=bne_iff_ne.1 a8;refine jL 3 ?_;refine dD (H':=sU _ _ _ _++(_::_)) aP ?_;refine bP rfl (kT (H1:=sU _ _ _ _) (R:=_::_) rfl rfl rfl rfl rfl (a0s _ w (iT (aI ⟨s.toArray⟩ i).1) p g hg oM (by have:=Ke.OE (aI ⟨s.toArray⟩ i).1;omega) _) ?_ (fun _ _ _ _ h=>by cases h.1) (fun _ _ h=>by cases h.1));intro _ _ _ a0 aj;have A:=a0 _ _ A;have G:=G.mono a0;obtain⟨h,g2,aw,rfl⟩:=aj;cases h;have N:=M _ _ _ _ a0 N;refine dD (H':=_::(_++_)) aP.symm ?_;refine jL 5 ?_;refine bJ ⟨i+(aI ⟨s.toArray⟩ i).2,w++iT (aI ⟨s.toArray⟩ i).1,true,g2,k,_,H⟩ ⟨W.in hp hc,aw,⟨G,A⟩,N⟩ dO rT rfl rfl
  have hc:iT (aI ⟨s.toArray⟩ i).1=[32]:=by have h:=a8;simpa using h
  refine jL 5 ?_;refine dD (H':=sU _ _ _ _++(_::_)) aP ?_;refine bP rfl (kT (H1:=sU _ _ _ _) (R:=_::_) rfl rfl rfl rfl rfl (a6x _ w p g hg _) ?_ (fun _ _ _ _ h=>by cases h.1) (fun _ _ h=>by cases h.1));intro _ _ _ a1 al;have A:=a1 _ _ A;have G:=G.mono a1;obtain⟨h,rfl⟩:=al;cases h;have N:=M _ _ _ _ a1 N;refine dD (H':=_::(_++_)) aP.symm ?_;refine oW ?_ ?_<;>intro O
  ·have Q:w≠[]:=fun h=>by have:=mO O;rw[h]at this;simp at this
   refine jL 1 ?_;refine dD (H':=sU _ _ _ _++(_::_)) aP ?_;refine J.KT 2 23 true _ rfl rfl rfl O (kT (H1:=sU _ _ _ _) (R:=_::_) rfl rfl rfl rfl rfl (a1e _ w p g hg (fun h=>absurd h Q) oM _) ?_ (fun _ _ _ _ h=>by cases h.1) (fun _ _ h=>by cases h.1));intro _ _ _ a2 am;have A:=a2 _ _ A;have G:=G.mono a2;obtain⟨h,y0,z0,rfl⟩:=am;cases h;have N:=M _ _ _ _ a2 N;refine dD (H':=_::(_++_)) aP.symm ?_;refine J.b6C [_,_] 2 23 true _ rfl rfl rfl O rfl rfl rfl rfl rfl (ah k [str w] (by rw[dP,(W.out hp hc Q).1];rfl) _ H N) ?_ (fun _ _ _ h=>by rcases h with⟨h,_⟩|⟨h,_⟩<;>cases h) (fun _ _ h=>by rcases h with⟨h,_⟩|⟨h,_⟩<;>cases h);intro v3 I3 H3 S ad;have A:=S _ _ A;have G:=G.mono S;obtain⟨_,h3,ai⟩:∃t:Bool,v3= .bool t∧((t=true∧Y (k+1) I3 H3)∨(t=false∧Z I3 H3)):=by
    rcases ad with⟨h,h2⟩|⟨h,h2⟩
    ·cases h;exact⟨true,rfl,.inl ⟨rfl,h2⟩⟩
    cases h;exact⟨false,rfl,.inr ⟨rfl,h2⟩⟩
   subst h3;refine mW ?_ ?_<;>intro a9
   ·have ax:Z I3 H3:=by
     rcases ai with⟨rfl,_⟩|⟨_,h⟩
     ·exact bC a9
     exact h
    refine jL 6 ?_;refine bW (H':=H3) (dA _ (dA _ (iG _))) ?_;exact Ej.b3c rfl rfl ⟨rfl,.inr ax⟩
   have ae:Y (k+1) I3 H3:=by
    rcases ai with⟨_,h⟩|⟨rfl,_⟩
    ·exact h
    exact bC a9
   refine jL 3 ?_;refine dD (H':=[_]++(_::_)) aP ?_;refine bP rfl (kT (H1:=[_]) (R:=_::_) rfl rfl rfl rfl rfl (a1r _ _ _ _ _) ?_ (fun _ _ _ _ h=>by cases h.1) (fun _ _ h=>by cases h.1));intro _ _ _ a3 an;have A:=a3 _ _ A;have G:=G.mono a3;obtain⟨h,rfl⟩:=an;cases h;have ae:=M _ _ _ _ a3 ae;refine dD (H':=_::(_++_)) aP.symm ?_;refine jL 2 ?_;refine bJ ⟨i+(aI ⟨s.toArray⟩ i).2,[],false,none,k+1,_,H3⟩ ⟨(W.out hp hc Q).2,⟨rfl,rfl⟩,⟨G,A⟩,ae⟩ dO rT rfl rfl
  obtain rfl:w=[]:=dM.1 (by have:=nM O;omega);refine jL 11 ?_;refine dD (H':=sU _ _ _ _++(_::_)) aP ?_;refine bP rfl (kT (H1:=sU _ _ _ _) (R:=_::_) rfl rfl rfl rfl rfl (a1r _ _ _ _ _) ?_ (fun _ _ _ _ h=>by cases h.1) (fun _ _ h=>by cases h.1));intro _ _ _ a4 ao;have A:=a4 _ _ A;have G:=G.mono a4;obtain⟨h,rfl⟩:=ao;cases h;have N:=M _ _ _ _ a4 N;refine dD (H':=_::(_++_)) aP.symm ?_;refine jL 2 ?_;refine bJ ⟨i+(aI ⟨s.toArray⟩ i).2,[],false,none,k,_,H⟩ ⟨W.b7k hp hc,⟨rfl,rfl⟩,⟨G,A⟩,N⟩ dO rT rfl rfl

 refine jL 2 ?_;refine bP rfl (EP 0 rfl rfl rfl rfl rfl (by rw[size_mk];omega) ?_);refine jL 12 ?_;refine dD (H':=sU _ _ _ _++(_::_)) aP ?_;refine bP rfl (kT (H1:=sU _ _ _ _) (R:=_::_) rfl rfl rfl rfl rfl (a6x _ w p g hg _) ?_ (fun _ _ _ _ h=>by cases h.1) (fun _ _ h=>by cases h.1));intro _ _ _ a5 ap;have A:=a5 _ _ A;have G:=G.mono a5;obtain⟨h,rfl⟩:=ap;cases h;have N:=M _ _ _ _ a5 N;refine dD (H':=_::(_++_)) aP.symm ?_;refine jS ?_ ?_<;>intro aa ag
 ·have Q:w≠[]:=fun h=>by have:=mO aa;rw[h]at this;simp at this
  refine jL 2 ?_;refine dD (H':=sU _ _ _ _++(_::_)) aP ?_;refine bP rfl (kT (H1:=sU _ _ _ _) (R:=_::_) rfl rfl rfl rfl rfl (a1e _ w p g hg (fun h=>absurd h Q) oM _) ?_ (fun _ _ _ _ h=>by cases h.1) (fun _ _ h=>by cases h.1));intro _ _ _ a6 aq;have A:=a6 _ _ A;have G:=G.mono a6;obtain⟨h,y0,z0,rfl⟩:=aq;cases h;have N:=M _ _ _ _ a6 N;refine dD (H':=_::(_++_)) aP.symm ?_;refine J.yield [_,_] rfl rfl rfl rfl rfl rfl (ah k [str w] (by rw[dP,(W.last oM Q).1];rfl) _ H N) ?_ (fun _ _ _ h=>by rcases h with⟨h,_⟩|⟨h,_⟩<;>cases h) (fun _ _ h=>by rcases h with⟨h,_⟩|⟨h,_⟩<;>cases h);intro v3 I3 H3 S ad;have A:=S _ _ A;have G:=G.mono S;refine jL 1 ?_;refine bW (H':=H3) (dA _ (dA _ (iG _))) ?_;refine Ej.BO rfl rfl ⟨rfl,?_⟩;rcases ad with⟨_,h2⟩|⟨_,h2⟩
  ·refine .inl ?_;rw[bG,←(W.last oM Q).2];exact h2
  exact .inr h2
 obtain rfl:w=[]:=dM.1 (by have:=nM aa;omega);refine jL 1 ?_;refine bW (H':=H) (dA _ (List.sublist_append_right _ _)) ?_;refine Ej.BO rfl rfl ⟨rfl,.inl ?_⟩;rw[bG,←W.BO oM];exact N
end Go.Proofs.YtekmeaoblpfnpaaGreatDoor
end
section
namespace Go.Proofs.YtekmeaoblpfnpaaGreatDoor
open _root_.Go.Proofs.Tryz
open Go Go.Sx
theorem a0k l v (hl:l.length≤1000000000000)(N:(aV l).length≤1000000000000) I (W:oO 9 I l v):Pure aH 203 [v,str [32]] I (str (aV l)):=by
 rcases W with⟨rfl,rfl⟩|⟨b,c,sp,rfl,Z,hb⟩
 ·exact dL (Enters.of func203 dE rfl) fun w _=>(Tryz.strings_Join_none none 0 ⟨#[32]⟩ w).mono fun e w' ⟨h1,h2⟩=>⟨by rw[h1];rfl,h2⟩
 refine gJ (Enters.of func203 dE rfl) fun w hw=>?_;have O:=hw.1 _ _ hb;have Q:b<w.heap.size:=by
  rcases bQ b w.heap.size with S|S
  ·exact S
  simp[Array.getElem?_eq_none S]at O
 have G:(l.map fun x=>(⟨x.toArray⟩:ByteArray)).map (fun x=>x.data.toList)=l:=by
  rw[List.map_map];exact(gU fun x _=>sI).trans (List.map_id l)
 have A:jJ l [32]=aV l:=Ke.a3Q l;have h:=Tryz.strings_Join b 0 c (l.map fun x=>⟨x.toArray⟩) ⟨#[32]⟩ w (fun j x M=>by
  rw[dP]at M;cases N:l[j]? with
  |none=>rw[N]at M;cases M
  |some y=>
   rw[N]at M;cases M;rw[gZ];exact cell_of_heap O (nN N)) Q (by simp;omega) (by simpa using Z) (by rw[G,show(⟨#[32]⟩:ByteArray).data.toList=[32] from rfl,A];omega)
 rw[G,show(⟨#[32]⟩:ByteArray).data.toList=[32] from rfl,A,bG]at h;exact h
theorem a2V s I:jO aH 76 [str s] I [] (fun e G H'=>∃b,e= .returned (.func (.func 127) #[] #[ptr b 0])∧H'=[(b,jM 9 [str s])]):=by
 refine jU func76 fun w0 _=>?_;refine jL 3 ?_;intro A _;refine jV ?_;exact⟨A,rfl,rfl⟩
theorem sZ{l:List (List UInt8)}{k x}(h:l[k]?=some x):(l.take (k+1)).map str=(l.take k).map str++[str x]:=by
 obtain⟨A,G⟩:=aA.1 h;rw[aF A,G,dJ];rfl
theorem a3e(ws:List (List UInt8)) f fst cap I (hl:ws.length≤1000000000000)(M:Gen aH f fst cap I (ws.map fun w=>[str w])):jO aH 126 [.slice none 0 0,.func (.func f) fst.toArray cap.toArray] I []
 (fun e Z H'=>∃g,kZ 0 1 ws.length (ws.map str) g∧e= .returned (gV ws.length g)∧H'=gH 9 (ws.map str) g):=by
 refine jO.a4H func126 rfl dE (fZ rfl) ?_;intro w0 _;refine jL 3 ?_;intro b1 _;refine jL 10 ?_;refine Cj.rangeFunc (ps:=[7]) (H1:=[_]) (R:=[]) (ws.map fun w=>[str w]) (fun k Z H'=>k≤ws.length∧∃g,kZ 0 1 k ((ws.take k).map str) g∧H'=(b1,jM 69 [gV k g])::gH 9 ((ws.take k).map str) g) (fun _ _ _=>False) rfl (a5Z rfl) (seq1 _ _) rfl M (fun _ _ _ _ _ h=>h) ⟨aU _,none,⟨rfl,rfl⟩,rfl⟩ ?_ ?_ ?_
 ·intro l r k args _ _ _ hk O A;obtain⟨x,N,rfl⟩:=a6s hk;obtain⟨Q,g,G,rfl⟩:=A;have S:=(aA.1 N).1;refine jL 3 ?_;refine Ej.asg ?_;refine jL 5 ?_;intro _ _;refine bP rfl (tV 0 (aU _) (by':=15) [_,_,_] rfl rfl rfl rfl rfl lJ (.inr ⟨_,lJ⟩) kR kU yN rfl G rfl (iY (jR.at 0 rfl) rfl rfl rfl) oM ?_);intro _ W;refine jL 3 ?_;refine Ej.pull (jF iO) ?_;refine bW (fE (fD (fE iU))) ?_;exact iI ⟨S,_,by rw[sZ N];exact W,by rw[sZ N];rfl⟩
 ·intro _ _ _ O A;rw[bG]at A;obtain⟨Q,g,G,rfl⟩:=A;rw[bI]at G;rw[bI];refine Ej.yU (Ej.seq (Cj.sr (bK (q4 a0l (jR.at 1 rfl)) ?_)));refine J.as ?_;refine J.ns (Cj.ret ?_);refine Ej.b0o (.inl rfl) ?_;refine GN.mark 0 rfl fU ?_;refine GN.keep (fD (fD iU)) ?_;exact GN.MX rfl rfl ⟨g,G,rfl,fP _⟩
 exact fun _ _ _ _ _ hZ=>hZ.elim
theorem a7h(ws:List (List UInt8)) f fst cap I (M:ws.length≤1000000000000)(A:Gen aH f fst cap I (ws.map fun w=>[str w])):jO aH 75 [.func (.func f) fst.toArray cap.toArray] I []
 (fun e O H'=>∃g,kZ 0 1 ws.length (ws.map str) g∧e= .returned (gV ws.length g)∧H'=gH 9 (ws.map str) g):=by
 refine jU func75 fun w0 _=>?_;refine kL (a3e ws f fst cap _ M A) ?_;intro _ _ _ _ G;obtain⟨g,N,h,rfl⟩:=G;cases h;refine jV ?_;exact⟨g,N,rfl,fP _⟩
theorem yE s (W:s.length≤1000000000) I:jO aH 30 [str s] I [] (fun e Z H'=>∃v,e= .returned v∧oO 9 Z (cO s) v∧H'=[]):=by
 have a0:=Ke.qX s;refine jU func30 fun w0 _=>?_;refine sV (a2V s _) ?_;intro _ _ _ _ N O;obtain⟨Q,h,rfl⟩:=O;cases h;refine gX (N _ (.head _)) (fun I9 _ A=>?_);refine sV (a7h (cO s) _ [] [ptr Q 0] _ oM (a1i Q s W _ A)) ?_;intro _ I9 _ G S M;have A:=G _ _ A;obtain⟨g,hg,h,rfl⟩:=M;cases h;refine J.xY (hg.base S) (fun _ _ hv=>?_);refine jV ?_;exact⟨_,rfl,hv,rfl⟩
end Go.Proofs.YtekmeaoblpfnpaaGreatDoor
end
section
namespace Go.Proofs.YtekmeaoblpfnpaaGreatDoor
open _root_.Go.Proofs.Tryz
open Go Go.Sx
theorem ascii_of_all{l:List UInt8}(h:l.all (fun b=>decide (b.toNat<128))=true):∀(j:Nat) b,(⟨l.toArray⟩:ByteArray).data.toList[j]?=some b→b.toNat<128:=fun j b A=>by
 rw[uP]at A;exact mO (aZ.1 h b (lX A))
theorem a6o s (A:s.length≤1000000000000) I:Pure aH 246 [str s,str Ke.KC] I (str (gY s Ke.KC)):=
 gJ (Enters.of func246 dE rfl) fun w _=>by
  have h:=Any.strings_Trim_laid Tryz.lays160 kR ⟨s.toArray⟩ ⟨Ke.KC.toArray⟩ w (by rw[size_mk];omega) dE (ascii_of_all dE);rw[uP,uP]at h;exact h
theorem a3P s I:Pure aH 202 [str s,str [48]] I (str (s.dropWhile (· == 48))):=
 dL (Enters.of func202 dE rfl) fun w _=>by
  have h:=Tryz.strings_TrimLeft_one ⟨s.toArray⟩ 48 dE w;rw[uP]at h;exact h
theorem a8b{a b:Nat×Obj}{G:HL}:(G++[a,b]).Perm (a::(b::G++[])):=by
 rw[fP];exact List.perm_append_comm
theorem IQ{n:Nat}(h:n<256):jL.wrap (n:Int)=((aK n).toNat:Int):=by
 rw[show(aK n).toNat=n by simp;omega];simp[jG,jH,iV];omega
theorem EZ{f}{l:List (List UInt8)}{k x}(h:l[k]?=some x):((l.take (k+1)).map f).map str=((l.take k).map f).map str++[str (f x)]:=by
 obtain⟨A,G⟩:=aA.1 h;rw[aF A,G,dJ,dJ];rfl
theorem KD s (A:s.length≤1000000000000) I:Pure aH 201 [str s] I (.bool (aX s)):=by
 refine jU func201 fun w0 _=>?_;refine kC (a6o s A _) ?_;refine jV ?_;exact⟨zC (fun b=>fQ (.bool b)) (Ke.UE s),rfl,rfl⟩
theorem LX s skip (hs:s.length≤100000000) I:Pure aH 138 [str s,i64 skip] I (str (Ke.nT s skip)):=by
 refine fA ?_;have a8:(Ke.cut s skip).length≤s.length:=by unfold Ke.cut;simp
 have a9:=Ke.qX (Ke.cut s skip);have aa:=Ke.VY (Ke.cut s skip);refine jO.a4H func138 rfl dE (fZ rfl) ?_;intro w0 _;refine jL 9 ?_;refine bK (yS rfl rfl rfl) ?_;refine jL 2 ?_;refine bK (uN rfl rfl rfl) ?_;refine aT 13 (i64 (((min (max skip 0) (s.length:Int)).toNat:Nat):Int)) rfl (zC i64 oM) ?_;refine bK (lN (p:=(min (max skip 0) (s.length:Int)).toNat) (q:=s.length) rfl rfl lM ⟨_,rfl⟩ rfl oM oM) ?_;refine aT 14 (str (Ke.cut s skip)) rfl (by rw[bI];rfl) ?_;refine jL 6 ?_;intro b1 _;refine sV (a2V (Ke.cut s skip) _) ?_;intro _ _ _ _ a4 a5;obtain⟨sb,h,rfl⟩:=a5;cases h;refine gX (a4 _ (.head _)) (fun _ _ A=>?_);refine jL 3 ?_;refine Cj.rangeFunc (ps:=[17]) (H1:=[_]) (R:=[]) ((cO (Ke.cut s skip)).map fun w=>[str w]) (fun k _ H'=>k≤(cO (Ke.cut s skip)).length∧∃g,kZ 0 1 k ((((cO (Ke.cut s skip)).take k).map dH).map str) g∧H'=(b1,jM 69 [gV k g])::gH 9 ((((cO (Ke.cut s skip)).take k).map dH).map str) g) (fun _ _ _=>False) rfl (a5Z rfl) (seq1 _ _) rfl (a1i sb _ oM _ A) (fun _ _ _ _ _ h=>h) ⟨aU _,none,⟨rfl,rfl⟩,rfl⟩ ?_ ?_ ?_
 ·intro l r k args _ _ _ hk N W;have A:=N _ _ A;obtain⟨x,M,rfl⟩:=a6s hk;obtain⟨a6,g,O,rfl⟩:=W;have Z:=(aA.1 M).1;have a0:=lX M;have ab:=Ke.xB _ x a0;have ac:0<x.length:=List.length_pos_iff.2 (Ke.BL _ _ x a0);have a7:=Ke.a2o x;refine jL 3 ?_;refine Ej.asg ?_;refine kC (KD x oM _) ?_;refine mW ?_ ?_<;>intro Q
  ·have S:aX x=true:=Q;have G:dH x=iZ x:=by unfold dH;rw[S];rfl
   refine jL 1 ?_;refine dW [] [] 13 kR ?_;refine jL 4 ?_;refine fK 23 (i64 ((x.length-1:Nat):Int)) rfl (zC i64 oM) ?_;refine dX 4 rfl (lN (p:=0) (q:=x.length-1) rfl rfl lM rfl ⟨_,rfl⟩ oM oM) ?_;refine fK 24 (str (x.take (x.length-1))) rfl (by rw[dB]) ?_;refine jL 4 ?_;refine fK 29 (i64 ((x.length-1:Nat):Int)) rfl (zC i64 oM) ?_;refine dX 10 rfl (lN (p:=x.length-1) (q:=x.length) rfl rfl lM ⟨_,rfl⟩ rfl oM oM) ?_;refine fK 30 (str (x.drop (x.length-1))) rfl (by rw[bI]) ?_;refine kC (a3P (x.take (x.length-1)) _) ?_;refine jL 1 ?_;refine dX 11 rfl (oZ rfl rfl rfl (by rw[Ke.dropLast_take];have:=a7;unfold aB at this;rw[aC]at this;omega)) ?_;refine fK 31 (str (aB x)) rfl (by rw[Ke.dropLast_take];rfl) ?_;refine jL 7 ?_;refine bK (uN rfl rfl rfl) ?_;refine aT 34 (i64 ((min (aB x).length 99:Nat):Int)) rfl (zC i64 (by split<;>omega)) ?_;refine jL 5 ?_;refine bK (zZ rfl rfl rfl dE (qW (by show _≤((min (aB x).length 99 / 10:Nat):Int)∧((min (aB x).length 99 / 10:Nat):Int)≤_;omega))) ?_;refine aT 36 (i64 ((min (aB x).length 99 / 10:Nat):Int)) rfl rfl ?_;refine jL 1 ?_;refine aT 37 (i64 ((48+min (aB x).length 99 / 10:Nat):Int)) rfl (zC i64 oM) ?_;refine jL 1 ?_;refine aT 38 (u8 (aK (48+min (aB x).length 99 / 10))) rfl (zC (bF .u8) (IQ oM)) ?_;refine jL 2 ?_;refine aT 40 (i64 ((min (aB x).length 99 % 10:Nat):Int)) rfl rfl ?_;refine jL 1 ?_;refine aT 41 (i64 ((48+min (aB x).length 99 % 10:Nat):Int)) rfl (zC i64 oM) ?_;refine jL 1 ?_;refine aT 42 (u8 (aK (48+min (aB x).length 99 % 10))) rfl (zC (bF .u8) (IQ oM)) ?_;refine jL 1 ?_;intro _ _;refine bK (uJ [aK (48+min (aB x).length 99 / 10),aK (48+min (aB x).length 99 % 10)] rfl rfl rfl rP lM LV (jR.at 0 rfl) rfl) ?_;refine jL 1 ?_;refine bK (oZ rfl rfl rfl (by first|omega|(simp only[aC];omega)|(simp;omega))) ?_;refine aT 46 (str (iZ x)) rfl rfl ?_;refine jL 7 ?_;intro _ _;refine bP rfl (tV 0 (aU _) (by':=15) [_,_,_,_] rfl rfl rfl rfl rfl lJ (.inr ⟨_,lJ⟩) kR kU yN rfl O rfl (iY (jR.at 0 rfl) rfl rfl rfl) oM ?_);intro _ a1;refine jL 3 ?_;refine Ej.pull (jF (jF iO)) ?_;refine bW (fE (fD (fD (fE iU)))) ?_;exact iI ⟨Z,_,by rw[EZ M,G];exact a1,by rw[EZ M,G];rfl⟩
  have S:aX x=false:=Q;have G:dH x=x:=by unfold dH;rw[S];rfl
  refine jL 6 ?_;intro _ _;refine bP rfl (tV 0 (aU _) (by':=15) [_,_,_] rfl rfl rfl rfl rfl lJ (.inr ⟨_,lJ⟩) kR kU yN rfl O rfl (iY (jR.at 0 rfl) rfl rfl rfl) oM ?_);intro _ a2;refine jL 3 ?_;refine Ej.pull (jF iO) ?_;refine bW (fE (fD (fE iU))) ?_;exact iI ⟨Z,_,by rw[EZ M,G];exact a2,by rw[EZ M,G];rfl⟩
 ·intro _ _ _ N W;have A:=N _ _ A;rw[bG]at W;obtain⟨a6,g,O,rfl⟩:=W;rw[bI]at O;rw[show(cO (Ke.cut s skip)).take (cO (Ke.cut s skip)).length=cO (Ke.cut s skip) from bI];refine jL 3 ?_;refine Cj.b3K rfl (fun a3=>?_);refine Cj.perm (H':=gH _ _ _++[_,_]) a8b ?_;refine Cj.xY (O.base (fun p hp=>a3 p (.tail _ (.tail _ (List.mem_append_left _ hp))))) (fun _ _ hv=>?_);refine kC (a0k ((cO (Ke.cut s skip)).map dH) _ (by rw[bG];omega) oM _ hv) ?_;refine jL 4 ?_;refine Ej.b0o (.inl rfl) ?_;refine GN.mark 0 rfl fU ?_;refine GN.keep (bM _) ?_;exact GN.MX rfl rfl rT
 exact fun _ _ _ _ _ hZ=>hZ.elim
end Go.Proofs.YtekmeaoblpfnpaaGreatDoor
end
section
namespace Go.Proofs.YtekmeaoblpfnpaaGreatDoor
open _root_.Go.Proofs.Tryz
open Go Go.Sx
theorem a4a r (h:jA r=true):fB r=true:=by
 unfold jA at h;unfold fB;simp at h ⊢;omega
theorem a5c r I:∃b,Pure aH 268 [.int .i32 r] I (.bool b)∧(b=true→fB r=true):=
 ⟨_,dL (Enters.of func268 dE rfl) fun w _=>Tryz.utf8_ValidRune r w,a4a r⟩
theorem QF l c I:Pure aH 217 [str l,u8 c] I (i64 (bD l c)):=
 dL (Enters.of func217 dE rfl) fun w _=>by
  have h:=Tryz.strings_IndexByte ⟨l.toArray⟩ c.toNat w;have e:((c.toNat:Int)).toNat.toUInt8=c:=sI;rw[uP,e]at h;exact h
theorem indexByte_none{l c}(h:∀d∈l,d.toNat<128)(N:128≤c.toNat):bD l c= -1:=by
 induction l with
 |nil=>rfl
 |cons d l A=>
  have O:=h d (.head _);have G:(d == c)=false:=by rw[beq_eq_false_iff_ne];intro e;subst e;omega
  rw[bD,G,A fun x M=>h x (.tail _ M)];rfl
theorem b2v{r}(M:fB r=true)(G:128≤r):2≤(aN r).data.toList.length∧(aN r).data.toList.length≤4∧∃c,(aN r).data.toList[(aN r).data.toList.length-1]?=some c∧128≤c.toNat:=by
 obtain⟨h1,h2,h3⟩:=encode_facts r M G;have N:(aN r).data.toList.length=(aN r).size:=rfl;rw[N];have A:(aN r).size-1<(aN r).size:=oM;exact⟨h1,h2,_,Lib.data_getElem? (aN r) _ A,h3 A⟩
theorem RD{l:List UInt8}{i c}(h:l[i]?=some c)(N:c.toNat<128):aI ⟨l.toArray⟩ i=(c.toNat,1):=by
 obtain⟨A,O⟩:=aA.1 h;have G:i<(⟨l.toArray⟩:ByteArray).size:=by rw[size_mk];exact A
 have M:(⟨l.toArray⟩:ByteArray)[i]'G=c:=by simp[ByteArray.getElem_eq_getElem_data,O]
 rw[decode_ascii _ _ G (by rw[M];exact N),M]
theorem a0v A (M:∀c∈A,c.toNat<128)(h4:4≤A.length)(aa:A.length≤1000000) r (a5:128≤r)(hr:r≤2147483647) I:Pure aH 239 [str A,.int .i32 r] I (i64 (-1)):=by
 refine fA ?_;obtain⟨_,Q⟩:=a5c r I;refine jU func239 fun w0 _=>?_;refine jL 11 ?_;refine J.KT 2 163 true _ rfl rfl rfl (zH oM) (kV q3 rfl rfl ?_);refine J.KT 2 163 true _ rfl rfl rfl (zH oM) (kV (a4j rfl rfl rfl) rfl rfl ?_);refine bK (a5g rfl rfl (zH oM) rfl) ?_;refine jL 3 ?_;refine iE rfl (fun S=>bC (gG (iF (zI oM)) S)) (fun S=>?_);refine jS ?_ ?_<;>intro W a6
 ·refine jL 4 ?_;refine bP rfl (MF rfl rfl rfl rfl lM ?_);intro b3 _;refine jL 3 ?_;refine bV (ι:=Nat) (fun i=>True) (fun i=>A.length-i) (fun i=>[(0,str A),(1,.int .i32 r),(174,str A),(175,ptr b3 0)]) (fun i=>I) (fun i=>[(b3,.stringIter ⟨A.toArray⟩ i)]) 0 trivial rT rfl rfl ?_;rintro i -;rcases bQ i A.length with hp|hp
  ·obtain⟨c,G⟩:∃c,A[i]?=some c:=⟨_,kW hp⟩;have Z:=RD G (M c (lX G));refine jL 2 ?_;refine bP rfl (TS 0 rfl rfl rfl rfl rfl (by rw[size_mk];omega) fU ?_);refine jL 22 ?_;refine iE rfl (fun a2=>bC (gG (iF (beq_eq_false_iff_ne.2 (by rw[Z];dsimp only;have:=M c (lX G);omega))) a2)) (fun a2=>?_);refine jL 2 ?_;refine bJ (i+(aI ⟨A.toArray⟩ i).2) trivial (by rw[Z];dsimp only;omega) rT rfl rfl

  refine jL 2 ?_;refine bP rfl (EP 0 rfl rfl rfl rfl rfl (by rw[size_mk];omega) ?_);refine kM ?_;exact rT
 refine kC (Q.1) ?_;refine mW ?_ ?_<;>intro a3
 ·refine jV ?_;exact rT
 have a8:fB r=true:=Q.2 (by simpa using a3);obtain⟨_,_,c2,N,W⟩:=b2v a8 a5;obtain⟨c1,O⟩:∃c,A[(aN r).data.toList.length-1]?=some c:=⟨_,kW oM⟩;have S:=M c1 (lX O);have a9:(c1.toNat:Int)≠c2.toNat:=oM;have a7:∀d∈(A.take A.length).drop ((aN r).data.toList.length-1+1),d.toNat<128:=fun d hd=>M d (gI (List.mem_of_mem_drop hd));refine Cj.scope ?_;refine jL 28 ?_;refine bV (ι:=Unit) (fun i=>True) (fun i=>0) (fun i=>[(0,str A),(7,str (aN r).data.toList),(8,i64 ((aN r).data.toList.length-1:Int)),(9,i64 ((aN r).data.toList.length-1:Int))]) (fun i=>I) (fun i=>[]) () trivial rT rfl rfl ?_;rintro _ -;refine jL 9 ?_;refine iE rfl (fun a4=>?_) (fun a4=>bC (gG (iF (zH oM)) a4));refine jL 3 ?_;refine Cj.scope ?_;refine jL 2 ?_;refine dW [] [] 7 kR ?_;refine jL 2 ?_;refine dX 2 rfl (lH rfl rfl rfl lM oM (by rw[show((((aN r).data.toList.length:Int)-1).toNat)=(aN r).data.toList.length-1 by omega];exact O)) ?_;refine jL 2 ?_;refine dX 5 rfl (lH rfl rfl rfl lM oM (by rw[show((((aN r).data.toList.length:Int)-1).toNat)=(aN r).data.toList.length-1 by omega];exact N)) ?_;refine jL 3 ?_;refine iE rfl (fun a0=>?_) (fun a0=>bC (gG (iF (bne_iff_ne.2 a9)) a0));refine jL 1 ?_;refine dW [] [] 9 kR ?_;refine jL 3 ?_;refine fK 36 (i64 ((aN r).data.toList.length-1+1:Nat)) rfl (by congr 1;omega) ?_;refine dX 3 rfl (lN (p:=(aN r).data.toList.length-1+1) (q:=A.length) rfl rfl lM ⟨_,rfl⟩ rfl oM oM) ?_;refine jL 2 ?_;refine dX 6 rfl (lH rfl rfl rfl lM oM (by rw[show((((aN r).data.toList.length:Int)-1).toNat)=(aN r).data.toList.length-1 by omega];exact N)) ?_;refine kC (QF _ _ _) ?_;refine jL 1 ?_;refine fK 41 (i64 (-1)) rfl (by rw[indexByte_none a7 W]) ?_;refine jL 10 ?_;refine iE rfl (fun a1=>?_) (fun a1=>bC (gG (iF (zH oM)) a1));refine jL 8 ?_;refine Ej.b3J ?_;refine jL 4 ?_;refine Ej.b3J ?_;refine jV ?_;exact rT
theorem UA A (N:∀c∈A,c.toNat<128)(O:4≤A.length)(G:A.length≤1000000) r (M:128≤r)(Q:r≤2147483647) I:Pure aH 195 [str A,.int .i32 r] I (.bool false):=by
 refine jU func195 fun w0 _=>?_;refine kC (a0v A N O G r M Q _) ?_;refine jV ?_;exact rT
def a2W:List UInt8:=[48,49,50,51,52,53,54,55,56,57,88,120,32,45]
theorem b3g c:decide (0≤bD a2W c)=aS c:=by
 have h:∀n<256,decide (0≤bD a2W (aK n))=aS (aK n):=by decide +kernel
 have:=h c.toNat c.toNat_lt
 rwa [dN]at this
def LP (r:Nat):Bool:=decide (r<128) && aS (aK r)
theorem a0e(r:Nat)(G:r≤1114111) I:Pure aH 195 [str a2W,.int .i32 (r:Int)] I (.bool (LP r)):=by
 rcases bQ r 128 with h|h
 ·refine dL (Enters.of func195 dE rfl) fun w _=>?_;have h1:=Tryz.strings_ContainsRune_ascii ⟨a2W.toArray⟩ (r:Int) w oM oM;have e:((r:Int)).toNat.toUInt8=aK r:=rfl;rw[uP,e,b3g]at h1;have A:LP r=aS (aK r):=by simp[LP,h]
  rw[A];exact h1
 have A:LP r=false:=by simp[LP];omega
 rw[A];exact UA a2W dE dE dE (r:Int) oM oM I
theorem b3p(r:Nat)(A:r≤1114111) I:Pure aH 194 [.int .i32 (r:Int)] I (.bool (!LP r)):=by
 refine jU func194 fun w0 _=>?_;refine kC (a0e r A _) ?_;refine jV ?_;exact rT
theorem b4E{l:List UInt8}{i c}(h:l[i]?=some c)(A:128≤c.toNat):128≤(aI ⟨l.toArray⟩ i).1:=by
 have h1:Lib.decodeL (l.drop i)=aI ⟨l.toArray⟩ i:=Lib.decodeL_drop ⟨l.toArray⟩ i;rw[←h1,drop_cons h,Lib.decodeL_N];simp only[List.getD_cons_zero];unfold Lib.decodeN;rw[zD oM]
 split
 ·split
  ·assumption
  decide
 split
 ·split
  ·rename_i h2;exact nP dE h2.1
  decide
 split
 ·split
  ·rename_i h2;exact nP dE h2.1
  decide
 decide
theorem a6k{l:List UInt8}{i c}(h:l[i]?=some c)(A:LP (aI ⟨l.toArray⟩ i).1=true):aS c=true∧(aI ⟨l.toArray⟩ i).2=1:=by
 rcases bQ c.toNat 128 with G|G
 ·rw[RD h G]at A ⊢;simp only[LP,dR,dN]at A;exact⟨A.2,rfl⟩
 have:=b4E h G;simp only[LP,dR,zG]at A;omega
theorem b2e{l:List UInt8}{i c}(h:l[i]?=some c)(G:LP (aI ⟨l.toArray⟩ i).1=false):aS c=false:=by
 rcases bQ c.toNat 128 with A|A
 ·rw[RD h A]at G;simpa[LP,A]using G
 have h1:∀n<256,128≤n→aS (aK n)=false:=by decide +kernel
 have:=h1 c.toNat c.toNat_lt A
 rwa [dN]at this
theorem NS{l:List UInt8}{i c}(h:(l.take i).all aS=true)(M:l[i]?=some c)(A:aS c=true):(l.take (i+1)).all aS=true:=by
 obtain⟨G,N⟩:=aA.1 M;rw[aF G,N,iP,h];simp[A]
theorem YV{l:List UInt8}:∀{i:Nat} {c:UInt8},(l.take i).all aS=true→l[i]?=some c→aS c=false→l.takeWhile aS=l.take i:=by
 induction l with
 |nil=>intro i c _ h;simp at h
 |cons a r M=>
  intro i c h G A;cases i with
  |zero=>simp at G;subst G;rw[List.takeWhile_cons_of_neg (by simp[A])];rfl
  |succ i=>
   simp only[gW,jB,dR]at h;rw[eX h.1,M h.2 (by simpa using G) A,gW]
theorem KP{l:List UInt8}(h:l.all aS=true):l.takeWhile aS=l:=by
 induction l with
 |nil=>rfl
 |cons a r A=>
  rw[jB,dR]at h;rw[eX h.1,A h.2]
def b0C (s:List UInt8) (n:Int):Prop:=(n= -1∧s.takeWhile aS=s)∨∃k:Nat,n=k∧k≤s.length∧s.takeWhile aS=s.take k
theorem a4x s I:jO aH 238 [str s,.func (.func 194) #[] #[],.bool true] I [] (fun e I' H'=>∃n,e= .returned (i64 n)∧b0C s n∧H'=[]):=by
 refine jU func238 fun w0 _=>?_;refine jL 9 ?_;refine bP rfl (MF rfl rfl rfl rfl lM ?_);intro Q _;refine jL 3 ?_;refine bV (ι:=Nat) (fun i=>i≤s.length∧(s.take i).all aS=true) (fun i=>s.length-i) (fun i=>[(1,.func (.func 194) #[] #[]),(2,.bool true),(10,ptr Q 0)]) (fun i=>I) (fun i=>[(Q,.stringIter ⟨s.toArray⟩ i)]) 0 ⟨aU _,rfl⟩ rT rfl rfl ?_;rintro i ⟨W,G⟩;rcases bQ i s.length with O|O
 ·have Z:=fO s O;have S:=Ke.decode_le s i;obtain⟨c,A⟩:∃c,s[i]?=some c:=⟨_,kW O⟩;refine jL 2 ?_;refine bP rfl (TS 0 rfl rfl rfl rfl rfl (by rw[size_mk];omega) fU ?_);refine kC (b3p _ S _) ?_;refine mW ?_ ?_<;>intro N
  ·have M:LP (aI ⟨s.toArray⟩ i).1=false:=by have h:=N;simpa using h
   refine kM ?_;exact⟨_,rfl,.inr ⟨i,rfl,W,YV G A (b2e A M)⟩,rfl⟩
  have M:LP (aI ⟨s.toArray⟩ i).1=true:=by have h:=N;simpa using h
  refine jL 2 ?_;refine bJ (i+(aI ⟨s.toArray⟩ i).2) ⟨Z.2,by rw[(a6k A M).2];exact NS G A (a6k A M).1⟩ oM rT rfl rfl

 refine jL 2 ?_;refine bP rfl (EP 0 rfl rfl rfl rfl rfl (by rw[size_mk];omega) ?_);refine kM ?_;exact⟨_,rfl,.inl ⟨rfl,KP (by rw[aQ oM]at G;exact G)⟩,rfl⟩
theorem a3u s I:jO aH 193 [str s,.func (.func 194) #[] #[]] I [] (fun e M H'=>∃n,e= .returned (i64 n)∧b0C s n∧H'=[]):=by
 refine jU func193 fun w0 _=>?_;refine kL (a4x s _) ?_;intro _ _ _ _ A;obtain⟨n,h,G,rfl⟩:=A;cases h;refine jV ?_;exact⟨_,rfl,G,rfl⟩
end Go.Proofs.YtekmeaoblpfnpaaGreatDoor
end
section
namespace Go.Proofs.YtekmeaoblpfnpaaGreatDoor
open _root_.Go.Proofs.Tryz
open Go Go.Sx
theorem a9J{l sp}{k:Nat}{c}(h:l[k]?=some c):(mQ l++sp)[k]?=some (u8 c):=by
 obtain⟨A,_⟩:=aA.1 h;rw[List.getElem?_append_left (by rw[wX];exact A),mQ,dP,h];rfl
theorem w8{x}(h:0≤x∧x≤255):jL.wrap x=x:=by
 simp[jG,jH,iV];omega
theorem a0F:∀(l:List UInt8) (k:Nat),dF k l≤1000*l.length
 |[],_=>by simp[dF]
 |c::r,k=>by
  have h1:=a0F r (k+1);have h2:=c.toNat_lt;have h3:(c.toNat-48)*(1+2*(k % 2))≤255*3:=eH oM oM;simp only[dF,aO];omega
theorem SE{l:List UInt8}{k c}(h:l[k]?=some c):dF 0 (l.take (k+1))=dF 0 (l.take k)+(c.toNat-48)*(1+2*(k % 2)):=by
 obtain⟨A,G⟩:=aA.1 h;rw[aF A,G,Ke.a4C,dF,dF,aY,dK oM,gZ,Nat.add_zero]
theorem a4X c:dG c≤255:=by
 have h2:=c.toNat_lt;unfold dG;split<;>omega
theorem a0Y:∀(l:List UInt8) (k:Nat),dI k l≤2550*l.length
 |[],_=>by simp[dI]
 |c::r,k=>by
  have h1:=a0Y r (k+1);have h3:(10-k)*dG c≤10*255:=eH oM (a4X c);simp only[dI,aO];omega
theorem CX{l:List UInt8}{k c}(h:l[k]?=some c):dI 0 (l.take (k+1))=dI 0 (l.take k)+(10-k)*dG c:=by
 obtain⟨A,G⟩:=aA.1 h;rw[aF A,G,Ke.a4q,dI,dI,aY,dK oM,gZ,Nat.add_zero]
theorem a2f{l}{k:Nat}{c}(A:aX l=true)(h:l[k]?=some c):48≤c.toNat∧c.toNat≤57:=dY.1 (aZ.1 A c (lX h))
theorem a5f s (a0:12≤s.length)(hs:s.length≤1000000)(hd:aX (s.take 12)=true) I:Pure aH 200 [str s] I (u8 (bT s)):=by
 refine fA ?_;have a1:(s.take 12).length=12:=by rw[aY];omega
 refine jU func200 fun w0 _=>?_;refine jL 14 ?_;refine bK (lN (p:=0) (q:=12) rfl rfl lM rfl ⟨_,rfl⟩ oM oM) ?_;refine aT 7 (str (s.take 12)) rfl (by rw[dB]) ?_;refine bP rfl (EW rfl rfl rfl rfl lM rP LV ?_);intro O c2 Q M _ _;refine jL 5 ?_;refine bV (ι:=Nat) (fun j=>j≤(s.take 12).length) (fun j=>(s.take 12).length-j) (fun j=>[(0,str s),(3,i64 ((dF 0 ((s.take 12).take j):Nat):Int)),(8,.slice (some ⟨O,0,none⟩) (s.take 12).length c2),(9,i64 ((s.take 12).length:Int)),(10,i64 (j:Int))]) (fun j=>I) (fun j=>[(O,.cells (mQ (s.take 12)++Q).toArray 5 (M,M+1))]) 0 (aU _) rT rfl rfl ?_;intro j hj;have S:=a0F ((s.take 12).take j) 0;rw[aY,dK hj]at S;refine jS ?_ ?_<;>intro W N
 ·have Z:j<(s.take 12).length:=oM;obtain⟨c,A⟩:∃c,(s.take 12)[j]?=some c:=⟨_,kW Z⟩;have hc:=a2f hd A;have hm:(c.toNat-48)*(1+2*(j % 2))≤9*3:=eH oM oM;refine kJ j ?_;refine bK (jP rfl rfl tA5 (jR.at 0 rfl) (a9J A)) ?_;refine jL 7 ?_;refine bK (FZ rfl rfl rfl (w8 oM)) ?_;refine jL 1 ?_;refine aT 18 (i64 ((c.toNat-48:Nat):Int)) rfl (zC i64 ((qW oM).trans oM)) ?_;refine jL 2 ?_;refine aT 20 (i64 ((j % 2:Nat):Int)) rfl rfl ?_;refine jL 2 ?_;refine aT 22 (i64 ((1+2*(j % 2):Nat):Int)) rfl (zC i64 oM) ?_;refine bK (DX rfl rfl rfl (qW (by rw[←bY];omega))) ?_;refine aT 23 (i64 (((c.toNat-48)*(1+2*(j % 2)):Nat):Int)) rfl (zC i64 (bY _ _).symm) ?_;refine jL 9 ?_;refine bJ (j+1) oM oM ⟨rfl,by rw[SE A];exact zC (fun z=>some (bF .i64 z)) oM,rfl,rfl,rfl,trivial⟩ rfl rfl
 have G:(s.take 12).take j=s.take 12:=aQ oM;refine jL 9 ?_;refine aT 27 (i64 ((dF 0 (s.take 12) % 10:Nat):Int)) rfl (by rw[G];rfl) ?_;refine jL 1 ?_;refine aT 28 (i64 ((10-dF 0 (s.take 12) % 10:Nat):Int)) rfl (zC i64 oM) ?_;refine jL 1 ?_;refine aT 29 (i64 (((10-dF 0 (s.take 12) % 10) % 10:Nat):Int)) rfl rfl ?_;refine jL 1 ?_;refine aT 30 (i64 ((48+(10-dF 0 (s.take 12) % 10) % 10:Nat):Int)) rfl (zC i64 oM) ?_;refine jL 1 ?_;refine aT 31 (u8 (bT s)) rfl (zC (bF .u8) (IQ oM)) ?_;refine jL 4 ?_;refine bW (bM _) ?_;refine jV ?_;exact rT
theorem a2D s (a5:s.length=10)(hx:∀c∈s,cZ c=true∨c=88) I:Pure aH 199 [str s] I (.bool (bU s)):=by
 refine fA ?_;refine jU func199 fun w0 _=>?_;refine jL 14 ?_;refine bP rfl (EW rfl rfl rfl rfl lM rP LV ?_);intro Z c2 a0 O _ _;refine jL 5 ?_;refine bV (ι:=Nat) (fun j=>j≤s.length) (fun j=>s.length-j) (fun j=>[(0,str s),(3,i64 ((dI 0 (s.take j):Nat):Int)),(8,.slice (some ⟨Z,0,none⟩) s.length c2),(9,i64 (s.length:Int)),(10,i64 (j:Int))]) (fun j=>I) (fun j=>[(Z,.cells (mQ s++a0).toArray 5 (O,O+1))]) 0 (aU _) rT rfl rfl ?_;intro j hj;have a1:=a0Y (s.take j) 0;rw[aY,dK hj]at a1;refine jS ?_ ?_<;>intro a2 Q
 ·have a3:j<s.length:=oM;obtain⟨c,A⟩:∃c,s[j]?=some c:=⟨_,kW a3⟩;have hc:48≤c.toNat:=(hx c (lX A)).elim (fun h=>(dY.1 h).1) (fun h=>by subst h;decide);have a6:=c.toNat_lt;have hm:(10-j)*dG c≤10*255:=eH oM (a4X c);refine kJ j ?_;refine bK (jP rfl rfl tA5 (jR.at 0 rfl) (a9J A)) ?_;refine jL 7 ?_;refine bK (FZ rfl rfl rfl (w8 oM)) ?_;refine jL 1 ?_;refine aT 17 (i64 ((c.toNat-48:Nat):Int)) rfl (zC i64 ((qW oM).trans oM)) ?_;refine jS ?_ ?_<;>intro G S
  ·have a4:dG c=10:=by
    have h:(c.toNat:Int)=88:=lU G;unfold dG;rw[zF (dZ.1 (by rw[show(88:UInt8).toNat=88 from rfl];omega))]
   refine jL 8 ?_;refine aT 22 (i64 ((10-j:Nat):Int)) rfl (zC i64 oM) ?_;refine jL 1 ?_;refine aT 23 (i64 ((dG c:Nat):Int)) rfl (zC i64 oM) ?_;refine bK (DX rfl rfl rfl (qW (by rw[←bY];omega))) ?_;refine aT 24 (i64 (((10-j)*dG c:Nat):Int)) rfl (zC i64 (bY _ _).symm) ?_;refine jL 9 ?_;refine bJ (j+1) oM oM ⟨rfl,by rw[CX A];exact zC (fun z=>some (bF .i64 z)) oM,rfl,rfl,rfl,trivial⟩ rfl rfl
  have a4:dG c=c.toNat-48:=by
   have h:¬(c.toNat:Int)=88:=lY G;unfold dG;rw[zD (fun e=>h (by subst e;rfl))]
  refine jL 6 ?_;refine aT 22 (i64 ((10-j:Nat):Int)) rfl (zC i64 oM) ?_;refine jL 1 ?_;refine aT 23 (i64 ((dG c:Nat):Int)) rfl (zC i64 oM) ?_;refine bK (DX rfl rfl rfl (qW (by rw[←bY];omega))) ?_;refine aT 24 (i64 (((10-j)*dG c:Nat):Int)) rfl (zC i64 (bY _ _).symm) ?_;refine jL 9 ?_;refine bJ (j+1) oM oM ⟨rfl,by rw[CX A];exact zC (fun z=>some (bF .i64 z)) oM,rfl,rfl,rfl,trivial⟩ rfl rfl
 have N:s.take j=s:=aQ oM;refine jL 9 ?_;refine aT 28 (i64 ((dI 0 s % 11:Nat):Int)) rfl (by rw[N];rfl) ?_;refine oW ?_ ?_<;>intro M
 ·have W:(dI 0 s % 11 == 0)=true:=beq_iff_eq.2 (by have h:=lU M;omega);refine jL 1 ?_;refine J.zg (lN (p:=0) (q:=9) rfl rfl lM rfl ⟨_,rfl⟩ oM oM) ?_;refine aT 32 (str (s.take 9)) rfl (by rw[dB]) ?_;refine kC (KD (s.take 9) (by rw[aY];omega) _) ?_;refine jL 5 ?_;refine bW (bM _) ?_;refine jV ?_;exact⟨zC (fun b=>fQ (.bool b)) (by unfold bU;rw[W];rfl),rfl⟩
 have W:(dI 0 s % 11 == 0)=false:=beq_eq_false_iff_ne.2 (fun e=>lY M (by rw[e];rfl));refine jL 8 ?_;refine bW (bM _) ?_;refine jV ?_;exact⟨zC (fun b=>fQ (.bool b)) (by unfold bU;rw[W];rfl),rfl⟩
theorem a7w s:∀c∈aG s,cZ c=true∨c=88:=fun c A=>by
 obtain⟨d,G,rfl⟩:=List.mem_map.1 A;obtain⟨h1,h2⟩:=iQ.1 G;have h3:aS d=true:=aZ.1 (iC (p:=aS)) d h1;revert h2 h3;exact Ke.NI (p:=fun d=>Ke.nb d=true→aS d=true→cZ (Ke.up d)=true∨Ke.up d=88) (by decide +kernel) d
theorem b1f s:(aG s).length≤s.length:=by
 unfold aG;rw[bG];exact nP (dS _ _) (dU _).length_le
theorem a7Q s (N:s.length≤1000000000) I:Pure aH 196 [str (iD (s.takeWhile aS))] I (str (aG s)):=by
 refine gJ (Enters.of func196 dE rfl) fun w _=>?_;have A:∀c∈iD (s.takeWhile aS),c.toNat<128∧Lib.upperB c=Ke.up c:=fun c G=>by
  obtain⟨h1,h2⟩:=iQ.1 G;have h3:aS c=true:=aZ.1 (iC (p:=aS)) c h1;revert h3;exact Ke.NI (p:=fun c=>aS c=true→c.toNat<128∧Lib.upperB c=Ke.up c) (by decide +kernel) c
 have O:(iD (s.takeWhile aS)).length≤s.length:=nP (dS _ _) (dU _).length_le;have h:=Tryz.strings_ToUpper_ascii ⟨(iD (s.takeWhile aS)).toArray⟩ w (by rw[size_mk];omega) (fun j b M=>by rw[uP]at M;exact(A b (lX M)).1);rw[uP]at h;have e:Lib.toUpperA (iD (s.takeWhile aS))=aG s:=gU fun c G=>(A c G).2;rw[e]at h;exact h
theorem b0d{a b}(h:a.length=12):bT (a++b)=bT a:=by
 unfold bT;rw[eF oM]
theorem a1f{a b}(h:aX a=true)(A:a.length=9):aX (([57,55,56]++a++b).take 12)=true:=by
 rw[eF (by simp;omega),aQ (by simp;omega),Ke.NZ,h];rfl
theorem a7d s (hs:s.length≤100000000) I:Pure aH 137 [str s] I (.tuple #[str (eP s).1,.bool (eP s).2]):=by
 refine fA ?_;have ag:=a7w s;have an:=b1f s;have ao:(s.takeWhile aS).length≤s.length:=(dU _).length_le;refine jU func137 fun w0 _=>?_;refine kL (a3u s _) ?_;intro _ _ _ _ ah;obtain⟨n,h,hn,rfl⟩:=ah;cases h;refine jL 3 ?_;refine Cj.join (ι:=Heap) (fun J4=>True) (fun J4=>[(0,str (s.takeWhile aS))]) (fun J4=>J4) (fun J4=>[]) ?_ (fun A=>?_)
 ·rintro J4 -;refine jL 3 ?_;intro b6 _;refine J.pull iO ?_;refine kL (a0f _ _ _ _ b6 _ _) ?_;intro _ _ _ _ ab;obtain⟨rb,ai,h,rfl,ho⟩:=ab;cases h;refine jL 1 ?_;refine J.pull iO ?_;refine kL (a5Q rb ai (s.takeWhile aS) oM _ ho) ?_;intro _ _ _ a3 ac;have ho:=ho.mono a3;obtain⟨h,rfl⟩:=ac;cases h;refine aT 15 (str (iD (s.takeWhile aS))) rfl rfl ?_;refine kC (a7Q s oM _) ?_;refine jL 3 ?_;refine Cj.join (ι:=Heap) (fun J8=>¬((aG s).length=10∧bU (aG s)=true)∧¬((aG s).length=13∧aX (aG s)=true∧bT (aG s)=(aG s).getD 12 0)) (fun J8=>[(0,str (aG s))]) (fun J8=>J8) (fun J8=>[]) ?_ (fun A=>?_)
  ·rintro J8 ⟨M,G⟩;refine jL 7 ?_;refine bW (bM _) ?_;refine jV ?_;have he:eP s=([],false):=by unfold eP jI;rw[zD M,zD G]
   rw[he];exact rT
  refine jL 1 ?_;refine Cj.join (ι:=Bool×Heap) (fun y=>(y.1=true→(aG s).length=10∧bU (aG s)=true)∧(y.1=false→¬((aG s).length=10∧bU (aG s)=true))) (fun y=>[(0,str (aG s)),(17,.bool y.1)]) (fun y=>y.2) (fun y=>[]) ?_ (fun A=>?_)
  ·rintro⟨y,_⟩ ⟨a6,a7⟩;dsimp only at a6 a7 ⊢;refine mW ?_ ?_<;>intro O
   ·obtain⟨a0,a8⟩:=a6 O;have aj:aX ((aG s).take 9)=true:=(Bool.and_eq_true_iff.1 a8).2;have ad:=a1f (b:=[48]) aj (by rw[aY];omega);refine jL 3 ?_;refine bK (lN (p:=0) (q:=9) rfl rfl lM rfl ⟨_,rfl⟩ oM oM) ?_;refine aT 26 (str ((aG s).take 9)) rfl (by rw[dB]) ?_;refine bK (oZ rfl rfl rfl (by first|omega|(simp only[aC];omega)|(simp;omega))) ?_;refine jL 7 ?_;refine bK (oZ rfl rfl rfl (by first|omega|(simp only[aC];omega)|(simp;omega))) ?_;refine kC (a5f _ (by simp;omega) (by simp;omega) ad _) ?_;refine aT 31 (u8 (bT ([57,55,56]++(aG s).take 9))) rfl (by rw[b0d (by simp;omega)]) ?_;refine jL 1 ?_;intro _ _;refine bK (uJ [bT ([57,55,56]++(aG s).take 9)] rfl rfl rfl rP lM LV (jR.at 0 rfl) rfl) ?_;refine bK (oZ rfl rfl rfl (by first|omega|(simp only[aC];omega)|(simp;omega))) ?_;refine jL 7 ?_;refine bW (bM _) ?_;refine jV ?_;have he:eP s=([57,55,56]++(aG s).take 9++[bT ([57,55,56]++(aG s).take 9)],true):=by unfold eP jI;rw[zF ⟨a0,a8⟩]
    rw[he];exact rT
   have M:=a7 O;refine jL 1 ?_;refine dW [] [] 15 kR ?_;refine jL 4 ?_;refine JA.split 39 rfl (fun Q=>?_) (fun Q=>?_)
   rotate_left
   ·have G:¬((aG s).length=13∧aX (aG s)=true∧bT (aG s)=(aG s).getD 12 0):=fun e=>lY Q (by rw[e.1];rfl);refine jL 16 ?_;exact A _ _ _ _ ⟨M,G⟩ rT rfl rfl
   have al:(aG s).length=13:=by have h:=lU Q;omega
   refine kC (KD (aG s) oM _) ?_;refine jL 3 ?_;refine JA.split 43 rfl (fun N=>?_) (fun N=>?_)
   rotate_left
   ·have G:¬((aG s).length=13∧aX (aG s)=true∧bT (aG s)=(aG s).getD 12 0):=fun e=>bC (e.2.1.symm.trans N);refine jL 12 ?_;exact A _ _ _ _ ⟨M,G⟩ rT rfl rfl
   have a9:aX (aG s)=true:=N;have ae:aX ((aG s).take 12)=true:=aZ.2 fun c hc=>aZ.1 a9 c (gI hc);obtain⟨c,a1⟩:∃c,(aG s)[12]?=some c:=⟨_,kW oM⟩;have aa:(aG s).getD 12 0=c:=by rw[List.getD,a1];rfl
   refine jL 2 ?_;refine JA.fix lI (fun af=>?_);refine JA.tkG 11 7 43 true _ rfl af rfl rfl N (lH rfl rfl rfl lM oM a1) ?_;refine kC (a5f (aG s) oM oM ae _) ?_;refine jS ?_ ?_<;>intro S a4
   ·have am:bT (aG s)=(aG s).getD 12 0:=by have h:=lU S;rw[aa];exact dZ.1 oM
    refine jL 10 ?_;refine bW (bM _) ?_;refine jV ?_;have he:eP s=(aG s,true):=by unfold eP jI;rw[zD M,zF ⟨al,a9,am⟩]
    rw[he];exact rT
   ·have G:¬((aG s).length=13∧aX (aG s)=true∧bT (aG s)=(aG s).getD 12 0):=fun e=>lY S (by rw[e.2.2,aa]);refine jL 2 ?_;exact A _ _ _ _ ⟨M,G⟩ rT rfl rfl
  refine oW ?_ ?_<;>intro W
  ·have a0:(aG s).length=10:=by have h:=lU W;omega
   refine kC (a2D (aG s) a0 ag _) ?_;refine jL 3 ?_;exact A (bU (aG s),_) _ _ _ ⟨fun h=>⟨a0,h⟩,fun h e=>bC (e.2.symm.trans h)⟩ rT rfl rfl
  have M:¬((aG s).length=10∧bU (aG s)=true):=fun e=>lY W (by rw[e.1];rfl);refine jL 5 ?_;exact A (false,_) _ _ _ ⟨fun h=>(by cases h),fun _=>M⟩ ⟨rfl,by first|rfl|exact zC (fun b=>some (Value.bool b)) (by assumption),trivial⟩ rfl rfl
 refine jS ?_ ?_<;>intro Z a5
 ·obtain⟨k,rfl,_,a2⟩:∃k:Nat,n=k∧k≤s.length∧s.takeWhile aS=s.take k:=hn.elim (fun h=>absurd (mO Z) (by rw[h.1];decide)) id;refine jL 3 ?_;refine bK (lN (p:=0) (q:=k) rfl rfl lM rfl ⟨_,rfl⟩ oM oM) ?_;refine aT 11 (str (s.takeWhile aS)) rfl (by rw[a2,dB]) ?_;refine jL 2 ?_;exact A _ _ _ _ trivial rT rfl rfl
 have a2:s.takeWhile aS=s:=hn.elim (fun h=>h.2) (fun⟨k,h,_⟩=>absurd (nM Z) (by rw[h];simp));refine jL 1 ?_;exact A _ _ _ _ trivial ⟨(zC (fun l=>some (str l)) a2.symm),trivial⟩ rfl rfl
end Go.Proofs.YtekmeaoblpfnpaaGreatDoor
end
namespace Ke
abbrev Row:=List Bs
def pg (s:Bs):Bool→Row→Row
 |true,[]=>[]
 |false,[]=>[s]
 |d,x::r=>if s<x∧d=false then s::x::pg s true r else x::pg s d r
def put (l:Row) (s:Bs):Row:=if s∈l then l else pg s false l
def Inc (l:Row):Prop:=l.Pairwise (· <·)
theorem FT s:∀l,pg s true l=l
 |[]=>rfl
 |x::r=>by unfold pg;rw[zD sI,FT s r]
theorem a4F s:∀(l:Row) (x:Bs),x∈pg s false l↔x=s∨x∈l
 |[],x=>by simp[pg]
 |y::r,x=>by
  unfold pg
  by_cases h:s<y
  ·rw[zF ⟨h,rfl⟩,FT];simp
  rw[zD (fun e=>h e.1),bH,a4F s r x,bH];constructor
  ·rintro(h|h|h)<;>simp[h]
  rintro(h|h|h)<;>simp[h]
theorem b6Q{a b:Bs}(h:¬b<a)(A:a≠b):a<b:=by grind
theorem a9W s:∀{l:Row},Inc l→s ∉ l→Inc (pg s false l)
 |[],_,_=>by simp[pg,Inc]
 |y::r,hl,hn=>by
  have G:=bZ.1 hl;unfold pg
  by_cases h:s<y
  ·rw[zF ⟨h,rfl⟩,FT];refine bZ.2 ⟨fun z A=>?_,hl⟩;rcases bH.1 A with rfl|A
   ·exact h
   exact jC h (G.1 z A)
  rw[zD (fun e=>h e.1)];refine bZ.2 ⟨fun z A=>?_,a9W s G.2 fun e=>hn (.tail _ e)⟩;rcases(a4F s r z).1 A with rfl|A
  ·exact b6Q h fun e=>hn (e▸ .head _)
  exact G.1 z A
theorem put_mem l s x:x∈put l s↔x=s∨x∈l:=by grind [put,a4F]
theorem a6K{l} s (h:Inc l):Inc (put l s):=by grind [put,a9W]
theorem WH:∀(xs:Row) {l:Row},Inc l→Inc (xs.foldl put l)
 |[],_,h=>h
 |x::r,_,h=>WH r (a6K x h)
theorem a2T:∀(xs l:Row) (x:Bs),x∈xs.foldl put l↔x∈xs∨x∈l
 |[],_,_=>sI
 |y::r,l,x=>by
  rw[List.foldl_cons,a2T r,put_mem,bH];constructor
  ·rintro(h|h|h)<;>simp[h]
  rintro((h|h)|h)<;>simp[h]
theorem ZF:∀{a b:Row},Inc a→Inc b→(∀x,x∈a↔x∈b)→a=b
 |[],[],_,_,_=>rfl
 |[],y::_,_,_,h=>absurd ((h y).2 (.head _)) sI
 |x::_,[],_,_,h=>absurd ((h x).1 (.head _)) sI
 |x::r,y::t,ha,hb,h=>by
  have A:=bZ.1 ha;have G:=bZ.1 hb;have O:x=y:=by
   rcases bH.1 ((h x).1 (.head _))with e|e
   ·exact e
   rcases bH.1 ((h y).2 (.head _))with N|N
   ·exact N.symm
   exact absurd (jC (G.1 x e) (A.1 y N)) (gB _)
  subst O;rw[ZF A.2 G.2 fun z=>⟨fun M=>?_,fun M=>?_⟩]
  ·rcases bH.1 ((h z).1 (.tail _ M))with rfl|e
   ·exact absurd (A.1 z M) (gB _)
   exact e
  rcases bH.1 ((h z).2 (.tail _ M))with rfl|e
  ·exact absurd (G.1 z M) (gB _)
  exact e
structure Sub where
  code:UInt8
  text:Bs
structure sG where
  tag:Bs
  ind:Bs
  data:Bs
  sv:Go.Value
  subs:List Sub
def texts (f:sG) (codes:Bs):Row:=(f.subs.filter fun s=>codes.contains s.code).map (·.text)
def textOf (f:sG) (codes:Bs):Bs:=join (texts f codes)
def skip (f:sG):Nat:=match f.ind[1]? with
 |some c=>if digit c then c.toNat-48 else 0
 |none=>0
end Ke
namespace Go.Proofs.YtekmeaoblpfnpaaGreatDoor
open Go Go.Sx
def tK (s:Ke.Sub):List Value:=[u8 s.code,str s.text]
def nS (f:Ke.sG):List Value:=[str f.tag,str f.ind,str f.data,f.sv]
theorem qH s:(tK s).length=2:=rfl
theorem OU f:(nS f).length=4:=rfl
def xO (I:Heap) (fs:List Ke.sG) (v:Value):Prop:=jW nS I fs v∧∀f∈fs,jW tK I f.subs f.sv
theorem xO.mono{I G fs v}(h:xO I fs v)(A:Le I G):xO G fs v:=⟨h.1.mono A,fun f M=>(h.2 f M).mono A⟩
def a0O (k l:UInt8) (v:Value):Value:= .agg #[u8 k,u8 l,v]
def lV (ss:List Ke.Sub):Nat:=(ss.map (·.text.length)).sum
theorem LU{base sz n xs ys g}(h:kZ base sz n xs g)(A:ys.length=xs.length):kZ base sz n ys g:=by
 cases g with
 |none=>
  obtain⟨h1,h2⟩:=h;exact⟨h1,dM.1 (by rw[A,h2];rfl)⟩
 |some q=>
  obtain⟨b,c,sp⟩:=q;obtain⟨h1,h2,h3⟩:=h;exact⟨h1,by rw[A];exact h2,by rw[A];exact h3⟩
theorem b2X{f p n c}(h:f.sv= .slice p n c):(nS f).all Value.oneCell'=true:=by
 unfold nS;rw[h];rfl
def tx (codes:List UInt8) (ss:List Ke.Sub):List (List UInt8):=(ss.filter fun s=>codes.contains s.code).map (·.text)
theorem b4R{codes}{ss:List Ke.Sub}{k s}(h:ss[k]?=some s):tx codes (ss.take (k+1))=tx codes (ss.take k)++(if codes.contains s.code then[s.text]else[]):=by
 obtain⟨A,G⟩:=aA.1 h;unfold tx;rw[aF A,G,List.filter_append,dJ]
 by_cases hc:codes.contains s.code=true
 ·rw[zF hc,List.filter_cons_of_pos (p:=fun s:Ke.Sub=>codes.contains s.code) hc];rfl
 rw[zD hc,List.filter_cons_of_neg (p:=fun s:Ke.Sub=>codes.contains s.code) hc];rfl
theorem a4D codes ss:(tx codes ss).length≤ss.length:=by
 unfold tx;rw[bG];exact dS _ _
theorem yD:∀l:List (List UInt8),(aV l).length≤(l.map eU).sum+l.length
 |[]=>by simp[aV]
 |[a]=>by simp[aV]
 |a::b::r=>by
  have:=yD (b::r);simp only[aV,aC,dQ,gK,aO,aW]at this ⊢;omega
theorem b0h codes:∀ss:List Ke.Sub,((tx codes ss).map eU).sum≤lV ss
 |[]=>by simp[tx]
 |s::r=>by
  have:=b0h codes r;unfold tx lV at this ⊢;rw[List.filter_cons]
  split
  ·simp only[dQ,gK];omega
  simp only[dQ,gK];omega
theorem MZ f codes:(Ke.textOf f codes).length≤lV f.subs+f.subs.length:=by
 have h1:=yD (tx codes f.subs);have h2:=b0h codes f.subs;have h3:=a4D codes f.subs;have:Ke.textOf f codes=aV (tx codes f.subs):=rfl;rw[this];omega
theorem a2k l c:decide (0≤bD l c)=l.contains c:=by
 induction l with
 |nil=>rfl
 |cons d r A=>
  rw[bD,List.contains_cons];simp only[beq_iff_eq]
  by_cases h:d=c
  ·subst h;simp
  rw[zD h,show(c == d)=false from beq_eq_false_iff_ne.2 (Ne.symm h),Bool.false_or,←A]
  by_cases h0:bD r c<0
  ·have:¬0≤bD r c:=oM;rw[zI this];exact zI (by split<;>omega)
  have:0≤bD r c:=oM;rw[zH this];exact zH (by split<;>omega)
theorem a6B{f}(h:¬1<f.ind.length):Ke.skip f=0:=by
 unfold Ke.skip;rw[List.getElem?_eq_none oM]
end Go.Proofs.YtekmeaoblpfnpaaGreatDoor
section
namespace Go.Proofs.YtekmeaoblpfnpaaGreatDoor
open _root_.Go.Proofs.Tryz
open Go Go.Sx
def mZ (I:Heap) (l:List (List UInt8)) (v:Value):Prop:=∃p c,v= .slice p l.length c∧l.length≤c∧(l≠[]→∃b o cs t fr sp,p=some ⟨b,o,none⟩∧I b=some (.cells (List.toArray cs) t fr)∧cs.drop o=l.map str++sp)
theorem qG{cs sp:List Value}{o}{l:List (List UInt8)}(h:cs.drop o=l.map str++sp){k x}(A:l[k]?=some x):cs[o+k]?=some (str x):=by
 rw[←List.getElem?_drop,h];exact nN A
theorem mZ.of{I l v}(h:oO 9 I l v):mZ I l v:=by
 rcases h with⟨rfl,rfl⟩|⟨b,c,sp,rfl,A,G⟩
 ·exact⟨none,0,rfl,iJ _,fun h=>absurd rfl h⟩
 exact⟨_,c,rfl,A,fun _=>⟨b,0,_,_,_,sp,rfl,G,rfl⟩⟩
theorem mZ.mono{I A l v}(h:mZ I l v)(G:Le I A):mZ A l v:=
 let ⟨p,c,h1,h2,h3⟩:=h;⟨p,c,h1,h2,fun M=>let ⟨b,o,cs,t,fr,sp,N,O,Q⟩:=h3 M;⟨b,o,cs,t,fr,sp,N,G _ _ O,Q⟩⟩
theorem take_same{α:Type}{a b:List α}{k x}(h:a.take k=b.take k)(h1:a[k]?=some x)(h2:b[k]?=some x):a.take (k+1)=b.take (k+1):=by
 obtain⟨A,G⟩:=aA.1 h1;obtain⟨M,N⟩:=aA.1 h2;rw[aF A,aF M,h,G,N]
theorem yV{l:List (List UInt8)}{k x}(h:l[k]?=some x):aV (l.take (k+1))=(if 0<k then aV (l.take k)++[32]else aV (l.take k))++x:=by
 have key:∀(a:List (List UInt8)) (x:List UInt8),aV (a++[x])=(if 0<a.length then aV a++[32]else aV a)++x:=by
  intro a x
  induction a with
  |nil=>rfl
  |cons b r G=>
   cases r with
   |nil=>simp[aV]
   |cons c t=>
    have h1:aV (b::c::t++[x])=b++[32]++aV (c::t++[x]):=rfl;rw[h1,G,zF sI,zF sI];simp[aV]
 obtain⟨A,M⟩:=aA.1 h;rw[aF A,M,key,aY,dK oM]
theorem JW l k:(aV (l.take k)).length≤(aV l).length:=by
 have key:∀a b:List (List UInt8),(aV a).length≤(aV (a++b)).length:=by
  intro a b
  induction a with
  |nil=>exact aU _
  |cons x r A=>
   cases r with
   |nil=>
    cases b with
    |nil=>exact iJ _
    |cons y t=>simp only[aV,fJ,List.nil_append,aC];omega
   |cons y t=>
    simp only[aV,fJ,aC]at A ⊢;omega
 have:=key (l.take k) (l.drop k)
 rwa [dV]at this
theorem a9n{s:List UInt8}{k c}(h:(s.take k).all cZ=true)(A:s[k]?=some c)(M:cZ c=true):(s.take (k+1)).all cZ=true:=by
 obtain⟨G,A⟩:=aA.1 A;rw[aF G,A,iP,h];simp[M]
theorem a0G{s}{k:Nat}{c}(A:s[k]?=some c)(G:¬cZ c=true):aX s=false:=by
 rcases h:aX s with _|_
 ·rfl
 exact absurd (aZ.1 h c (lX A)) G
theorem b1s{s:List UInt8}{k c d}(h:c ∉ s.take k)(A:s[k]?=some d)(M:d≠c):c ∉ s.take (k+1):=by
 obtain⟨G,A⟩:=aA.1 A;rw[aF G,A];simp only[List.mem_append,List.mem_singleton];rintro(e|e)
 ·exact h e
 exact M e.symm
theorem a5U{r}(h:r≠[]):aB (48::r)=aB r:=by
 cases r with
 |nil=>exact absurd rfl h
 |cons a t=>
  unfold aB;have h1:(48::a::t).length-1=(a::t).length-1+1:=rfl;rw[h1,eG];rfl
theorem wU{x}(h:x.length≤1∨∃c r,x=c::r∧c≠48):aB x=x:=by
 rcases h with h|⟨c,r,rfl,A⟩
 ·match x,h with
  |[],_=>rfl
  |[a],_=>rfl
 cases r with
 |nil=>rfl
 |cons a t=>
  have h1:(c::a::t).dropLast=c::(a::t).dropLast:=rfl;have h2:(c::a::t).length-1=(a::t).length-1+1:=rfl;unfold aB;rw[h1,List.dropWhile_cons_of_neg (by simpa using A),h2,eG,fJ]
  congr 1
  rw[fV,dV]
theorem b2E{l:List UInt8}{x:UInt8}(h:l[0]?=some x):l=x::l.tail:=by
 cases l with
 |nil=>simp at h
 |cons a r=>simp at h;subst h;rfl
theorem b5o a b va vb (aa:a.length≤100000000000000) I (ha:mZ I a va)(hb:mZ I b vb):Pure aH 265 [va,vb] I (.bool (decide (a=b))):=by
 obtain⟨p,c,rfl,_,hp⟩:=ha;obtain⟨q,d,rfl,_,hq⟩:=hb;refine jU func265 fun w0 _=>?_;refine jS ?_ ?_<;>intro G W
 ·have a1:a.length≠b.length:=fun e=>(bne_iff_ne.1 G) (by rw[e]);refine jV ?_;have M:decide (a=b)=false:=zI (fun e=>a1 (by rw[e]));rw[M];exact rT
 have a9:a.length=b.length:=by have h:=G;simp at h;omega
 refine jL 9 ?_;refine bV (ι:=Nat) (fun j=>j≤a.length∧a.take j=b.take j) (fun j=>a.length-j) (fun j=>[(0,.slice p a.length c),(1,.slice q b.length d),(5,i64 (j:Int))]) (fun j=>I) (fun j=>[]) 0 ⟨aU _,rfl⟩ rT rfl rfl ?_;rintro j ⟨_,N⟩;refine jS ?_ ?_<;>intro a2 Z
 ·have S:j<a.length:=oM;obtain⟨x,O⟩:∃x,a[j]?=some x:=⟨_,kW S⟩;obtain⟨y,A⟩:∃y,b[j]?=some y:=⟨_,kW oM⟩;obtain⟨_,ao,_,_,_,_,rfl,a3,a4⟩:=hp (jT S);obtain⟨_,bo,mQ,_,_,_,rfl,a5,a6⟩:=hq (jT (k:=j) oM);refine jL 5 ?_;refine dW [] [] 9 kR ?_;refine kJ (ao+j) ?_;refine dX 3 rfl (jP rfl rfl lQ (jR.zL a3) (qG a4 O)) ?_;refine kJ (bo+j) ?_;refine dX 7 rfl (jP rfl rfl lQ (jR.zL a5) (qG a6 A)) ?_;refine jS ?_ ?_<;>intro Q a0
  ·have a7:x≠y:=bne_iff_ne.1 Q;refine jV ?_;have M:decide (a=b)=false:=zI (fun e=>by subst e;rw[O]at A;exact a7 (Option.some.inj A));rw[M];exact rT
  have a8:y=x:=by have h:=Q;simp at h;exact h.symm
  refine jL 8 ?_;refine bJ (j+1) ⟨oM,take_same N O (a8▸A)⟩ oM rT rfl rfl
 refine jV ?_;have M:decide (a=b)=true:=zH (by rw[aQ oM,aQ oM]at N;exact N);rw[M];exact rT
theorem WJ l v (hl:l.length≤100000000000000)(hs:(aV l).length≤1000000000000) I (hv:mZ I l v):Pure aH 72 [v] I (str (aV l)):=by
 obtain⟨p,c,rfl,_,hp⟩:=hv;refine jU func72 fun w0 _=>?_;refine jL 17 ?_;refine bV (ι:=Nat) (fun j=>j≤l.length) (fun j=>l.length-j) (fun j=>[(0,.slice p l.length c),(3,str (aV (l.take j))),(4,i64 (j:Int))]) (fun j=>I) (fun j=>[]) 0 (aU _) rT rfl rfl ?_;intro j _;have a3:=JW l j;have a2:=JW l (j+1);refine jS ?_ ?_<;>intro a1 Z
 ·have Q:j<l.length:=oM;obtain⟨x,M⟩:∃x,l[j]?=some x:=⟨_,kW Q⟩;obtain⟨lb,lo,_,_,_,sp,rfl,S,W⟩:=hp (jT Q);have A:=zC eU (yV M);rw[aC]at A;refine jS ?_ ?_<;>intro N a0
  ·have G:0<j:=by have h:=mO N;omega
   refine jL 2 ?_;refine bK (oZ rfl rfl rfl (by rw[zF G,aC]at A;simp only[aO,aW]at A ⊢;omega)) ?_;refine kJ (lo+j) ?_;refine bK (jP rfl rfl lQ (jR.EH S) (qG W M)) ?_;refine bK (oZ rfl rfl rfl (by first|(rw[zF G,aC]at A;simp only[aC,aO,aW]at A ⊢;omega)|(rw[zD G]at A;omega))) ?_;refine jL 9 ?_;refine bJ (j+1) oM oM ⟨rfl,by rw[yV M,zF G];rfl,rfl,trivial⟩ rfl rfl
  have G:¬0<j:=by have h:=nM N;omega
  refine kJ (lo+j) ?_;refine bK (jP rfl rfl lQ (jR.EH S) (qG W M)) ?_;refine bK (oZ rfl rfl rfl (by first|(rw[zF G,aC]at A;simp only[aC,aO,aW]at A ⊢;omega)|(rw[zD G]at A;omega))) ?_;refine jL 9 ?_;refine bJ (j+1) oM oM ⟨rfl,by rw[yV M,zD G];rfl,rfl,trivial⟩ rfl rfl
 have O:l.take j=l:=aQ oM;refine jV ?_;rw[O];exact rT
theorem ZJ s (hs:s.length≤1000000000000) I:Pure aH 70 [str s] I (.bool (aX s)):=by
 refine jU func70 fun w0 _=>?_;refine jL 12 ?_;refine bV (ι:=Nat) (fun j=>j≤s.length∧(s.take j).all cZ=true) (fun j=>s.length-j) (fun j=>[(0,str s),(3,i64 (j:Int))]) (fun j=>I) (fun j=>[]) 0 ⟨aU _,rfl⟩ rT rfl rfl ?_;rintro j ⟨_,G⟩;refine jS ?_ ?_<;>intro W Q
 ·have Z:j<s.length:=oM;obtain⟨c,A⟩:∃c,s[j]?=some c:=⟨_,kW Z⟩;refine jL 8 ?_;refine bK (lH rfl rfl rfl lM oM A) ?_;refine oW ?_ ?_<;>intro M
  ·have N:¬cZ c=true:=fun e=>by have h1:=dY.1 e;have h:=mO M;omega
   refine jV ?_;rw[a0G A N];exact rT
  have a0:=nM M;refine jL 2 ?_;refine J.zg (lH rfl rfl rfl lM oM A) ?_;refine jS ?_ ?_<;>intro O S
  ·have N:¬cZ c=true:=fun e=>by have h1:=dY.1 e;have h:=mO O;omega
   refine jV ?_;rw[a0G A N];exact rT
  have hd:cZ c=true:=dY.2 (by have h:=nM O;omega);refine jL 8 ?_;refine bJ (j+1) ⟨oM,a9n G A hd⟩ oM rT rfl rfl
 refine jV ?_;have he:aX s=true:=by rw[aQ oM]at G;exact G
 rw[he];exact rT
theorem b5R s d (hs:s.length≤1000000000000) I:Pure aH 180 [str s,u8 d] I (.bool (s.contains d)):=by
 refine jU func180 fun w0 _=>?_;refine jL 12 ?_;refine bV (ι:=Nat) (fun j=>j≤s.length∧d ∉ s.take j) (fun j=>s.length-j) (fun j=>[(0,str s),(1,u8 d),(5,i64 (j:Int))]) (fun j=>I) (fun j=>[]) 0 ⟨aU _,sI⟩ rT rfl rfl ?_;rintro j ⟨_,G⟩;refine jS ?_ ?_<;>intro S N
 ·have W:j<s.length:=oM;obtain⟨c,A⟩:∃c,s[j]?=some c:=⟨_,kW W⟩;refine jL 8 ?_;refine bK (lH rfl rfl rfl lM oM A) ?_;refine jS ?_ ?_<;>intro M O
  ·have he:c=d:=dZ.1 (by have h:=lU M;omega);refine jV ?_;have Q:s.contains d=true:=by simpa using he▸lX A
   rw[Q];exact rT
  have Z:c≠d:=fun e=>lY M (by rw[e]);refine jL 8 ?_;refine bJ (j+1) ⟨oM,b1s G A Z⟩ oM rT rfl rfl
 refine jV ?_;have Q:s.contains d=false:=by rw[aQ oM]at G;simpa using G
 rw[Q];exact rT
theorem a9o s (hs:s.length≤1000000000000) I:Pure aH 71 [str s] I (str (iZ s)):=by
 refine jU func71 fun w0 _=>?_;refine jL 7 ?_;refine bV (ι:=List UInt8) (fun x=>aB x=aB s∧x.length≤s.length) (fun x=>x.length) (fun x=>[(0,str x)]) (fun x=>I) (fun x=>[]) s ⟨rfl,iJ _⟩ rT rfl rfl ?_;rintro x ⟨G,_⟩;refine oW ?_ ?_<;>intro N
 ·have S:1<x.length:=by have h:=mO N;omega
  obtain⟨c,O⟩:∃c,x[0]?=some c:=⟨_,kW oM⟩;have M:x=c::x.tail:=b2E O;have Z:x.tail≠[]:=fun e=>by rw[M,e]at S;simp at S
  refine jL 1 ?_;refine J.zg (lH rfl rfl rfl lM oM O) ?_;refine jS ?_ ?_<;>intro Q W
  ·have a0:x=48::x.tail:=by have h:=lU Q;rw[show c=48 from dZ.1 (by rw[show(48:UInt8).toNat=48 from rfl];omega)]at M;exact M
   refine jL 5 ?_;refine bK (lN (p:=1) (q:=x.length) rfl rfl lM ⟨_,rfl⟩ rfl oM oM) ?_;refine aT 13 (str x.tail) rfl (by rw[bI,List.drop_one]) ?_;refine jL 3 ?_;refine bJ x.tail ⟨by rw[←G,a0,a5U Z];rfl,by rw[iL];omega⟩ (by rw[iL];omega) rT rfl rfl
  have A:x.length≤1∨∃c r,x=c::r∧c≠48:= .inr ⟨c,_,M,fun e=>lY Q (by rw[e];rfl)⟩;have a1:(aB s).length=x.length:=by rw[←G,wU A]
  refine jL 8 ?_;refine aT 14 (str (aB s)) rfl (by rw[←G,wU A]) ?_;refine jL 1 ?_;refine bK (uN rfl rfl rfl) ?_;refine aT 16 (i64 ((min (aB s).length 99:Nat):Int)) rfl (zC i64 (by split<;>omega)) ?_;refine jL 6 ?_;refine bK (zZ rfl rfl rfl dE (qW (by show _≤((min (aB s).length 99 / 10:Nat):Int)∧((min (aB s).length 99 / 10:Nat):Int)≤_;omega))) ?_;refine aT 18 (i64 ((min (aB s).length 99 / 10:Nat):Int)) rfl rfl ?_;refine jL 1 ?_;refine aT 19 (i64 ((48+min (aB s).length 99 / 10:Nat):Int)) rfl (zC i64 oM) ?_;refine jL 1 ?_;refine aT 20 (u8 (aK (48+min (aB s).length 99 / 10))) rfl (zC (bF .u8) (IQ oM)) ?_;refine jL 2 ?_;refine aT 22 (i64 ((min (aB s).length 99 % 10:Nat):Int)) rfl rfl ?_;refine jL 1 ?_;refine aT 23 (i64 ((48+min (aB s).length 99 % 10:Nat):Int)) rfl (zC i64 oM) ?_;refine jL 1 ?_;refine aT 24 (u8 (aK (48+min (aB s).length 99 % 10))) rfl (zC (bF .u8) (IQ oM)) ?_;refine jL 1 ?_;intro _ _;refine bK (uJ [aK (48+min (aB s).length 99 / 10),aK (48+min (aB s).length 99 % 10)] rfl rfl rfl rP lM LV (jR.at 0 rfl) rfl) ?_;refine jL 1 ?_;refine aT 27 (str (aB s)) rfl (by rw[←G,wU A]) ?_;refine bK (oZ rfl rfl rfl (by first|omega|(simp only[aC];omega)|(simp;omega))) ?_;refine kM ?_;exact rT
 have A:x.length≤1∨∃c r,x=c::r∧c≠48:= .inl (by have h:=nM N;omega);have a1:(aB s).length=x.length:=by rw[←G,wU A]
 refine jL 15 ?_;refine aT 14 (str (aB s)) rfl (by rw[←G,wU A]) ?_;refine jL 1 ?_;refine bK (uN rfl rfl rfl) ?_;refine aT 16 (i64 ((min (aB s).length 99:Nat):Int)) rfl (zC i64 (by split<;>omega)) ?_;refine jL 6 ?_;refine bK (zZ rfl rfl rfl dE (qW (by show _≤((min (aB s).length 99 / 10:Nat):Int)∧((min (aB s).length 99 / 10:Nat):Int)≤_;omega))) ?_;refine aT 18 (i64 ((min (aB s).length 99 / 10:Nat):Int)) rfl rfl ?_;refine jL 1 ?_;refine aT 19 (i64 ((48+min (aB s).length 99 / 10:Nat):Int)) rfl (zC i64 oM) ?_;refine jL 1 ?_;refine aT 20 (u8 (aK (48+min (aB s).length 99 / 10))) rfl (zC (bF .u8) (IQ oM)) ?_;refine jL 2 ?_;refine aT 22 (i64 ((min (aB s).length 99 % 10:Nat):Int)) rfl rfl ?_;refine jL 1 ?_;refine aT 23 (i64 ((48+min (aB s).length 99 % 10:Nat):Int)) rfl (zC i64 oM) ?_;refine jL 1 ?_;refine aT 24 (u8 (aK (48+min (aB s).length 99 % 10))) rfl (zC (bF .u8) (IQ oM)) ?_;refine jL 1 ?_;intro _ _;refine bK (uJ [aK (48+min (aB s).length 99 / 10),aK (48+min (aB s).length 99 % 10)] rfl rfl rfl rP lM LV (jR.at 0 rfl) rfl) ?_;refine jL 1 ?_;refine aT 27 (str (aB s)) rfl (by rw[←G,wU A]) ?_;refine bK (oZ rfl rfl rfl (by first|omega|(simp only[aC];omega)|(simp;omega))) ?_;refine kM ?_;exact rT
end Go.Proofs.YtekmeaoblpfnpaaGreatDoor
end
namespace Go.Sx
open Go
def MK (a:Option Addr) (c j sz:Nat):Option Addr:=if c=j then a else a.map (·.add (j*sz))
section
variable {cx:Cx} {o:Oper} {e:Env} {S:World→Prop}
theorem a1K{x y z}{T E n c sz j k:Nat}{a kl N G}(O:o.op= .slice T x (some y) (some z) none)(Q:ev e x=some (.slice a n c))(W:ev e y=some (.int kl (j:Int)))(Z:ev e z=some (.int N G))(hu:cx.P.underlying T=some (.slice E))(M:∀w,(sizeOf E).run cx.P w= .ok sz w)(hk:G=(k:Int))(hj:j≤k)(hc:k≤c):
 kX cx o e S (.slice (MK a c j sz) (k-j) (c-j)):=by
 intro w0 w A _;subst hk;have h1:(k:Int)≤c:=oM;have h2:(j:Int)≤k:=oM;unfold MK;simp[execOp,O,A.eval Q,A.eval W,A.eval Z,jD,jK,run_underlying hu,iH,run_sliceBound,h1,h2,M]
theorem rQ{x y}{T E n c sz j:Nat}{a kl A}(O:o.op= .slice T x (some y) none none)(Q:ev e x=some (.slice a n c))(W:ev e y=some (.int kl A))(Z:cx.P.underlying T=some (.slice E))(G:∀w,(sizeOf E).run cx.P w= .ok sz w)(M:A=(j:Int))(hj:j≤n)(hc:n≤c):
 kX cx o e S (.slice (MK a c j sz) (n-j) (c-j)):=by
 intro w0 w N _;subst M;have h1:(j:Int)≤n:=oM;unfold MK;simp[execOp,O,N.eval Q,N.eval W,jD,jK,run_underlying Z,iH,run_sliceBound,h1,G]
theorem qV{x z}{T E n c sz k:Nat}{a M A}(N:o.op= .slice T x none (some z) none)(O:ev e x=some (.slice a n c))(Q:ev e z=some (.int M A))(W:cx.P.underlying T=some (.slice E))(G:∀w,(sizeOf E).run cx.P w= .ok sz w)(Z:A=(k:Int))(hc:k≤c):
 kX cx o e S (.slice a k c):=by
 subst Z;exact OH N O Q W G hc
end
theorem a1U{α:Type}{f sz}(A:∀x,(f x).length=sz):∀(l:List α) (j:Nat) (sp:List Value),j≤l.length→(l.flatMap f++sp).drop (j*sz)=(l.drop j).flatMap f++sp
 |l,0,sp,_=>sI
 |[],j+1,sp,h=>by simp at h
 |a::r,j+1,sp,h=>by
  rw[List.flatMap_cons,eY,show(j+1)*sz=(f a).length+j*sz by rw[A,Nat.add_mul];omega,←iW,List.drop_left,eG];exact a1U A r j sp (by simpa using h)
theorem jW.cut{α:Type}{f:α→List Value}{sz:Nat}(G:∀x,(f x).length=sz){I l a n c}(h:jW f I l (.slice a n c)){j k:Nat}(S:j≤k)(W:k≤l.length):jW f I ((l.drop j).take (k-j)) (.slice (MK a c j sz) (k-j) (c-j)):=by
 obtain⟨_,_,M,_,N⟩:=h;cases M;refine⟨_,c-j,by rw[aY,fH];congr 1;omega,by rw[aY,fH];omega,fun A=>?_⟩;have Q:j<k:=by
  rcases bQ j k with g|g
  ·exact g
  exact absurd (by rw[show k-j=0 by omega,List.take_zero]) A
 have O:l≠[]:=fun e=>A (by rw[e];simp);obtain⟨b,o,cs,t,fr,sp,h1,h2,h3⟩:=N O;subst h1;refine⟨b,o+j*sz,cs,t,fr,((l.drop j).drop (k-j)).flatMap f++sp,?_,h2,?_⟩
 ·unfold MK;rw[zD oM,Option.map_some,Addr.add_lit]
 rw[←iW,h3,a1U G l j sp oM,←eY,←List.flatMap_append,dV]
