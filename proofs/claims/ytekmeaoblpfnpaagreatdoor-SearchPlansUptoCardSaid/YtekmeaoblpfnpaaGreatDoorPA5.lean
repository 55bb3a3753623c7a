/-
  Own texts on the laws of the seat, joined: the logic, and contracts of functions. Conditions: none.
-/
import Derived.Test.YtekmeaoblpfnpaaGreatDoorNmA
import Derived.Test.YtekmeaoblpfnpaaGreatDoorPA4
import Derived.Lib.Join
import Derived.Lib.SlTrimSet
import Derived.Shelf.Strings.SlTrimAscii
import Derived.Lib.SlicesCompact
set_option linter.all false
set_option maxRecDepth 100000
set_option maxHeartbeats 40000000
open List renaming getElem?_eq_some_iff -> aA,length_append -> aC,take_succ_eq_append_getElem -> aH,length_cons -> aO,perm_middle -> aP,take_of_length_le -> aQ,length_nil -> aW,length_take -> aY,all_eq_true -> aZ,length_map -> bG,mem_cons -> bH,take_length -> bJ,nil_sublist -> bM,pairwise_cons -> bZ,drop_zero -> dB,length_eq_zero_iff -> dL,getElem?_map -> dN,map_cons -> dP,length_filter_le -> dR,takeWhile_prefix -> dS,take_append_drop -> dU,map_append -> dX,take_append_of_le_length -> eF,drop_succ_cons -> eG,length -> eU,takeWhile_cons_of_pos -> eX,append_assoc -> eY,mem_reverse -> fG,length_drop -> fH,cons_append -> fJ,append_nil -> fP,dropLast_eq_take -> fV,lt_irrefl -> gB,mem_of_mem_take -> gI,sum_cons -> gK,dropWhile_cons -> gQ,map_congr_left -> gU,take_succ_cons -> gW,all_takeWhile -> iC,length_tail -> iL,all_append -> iP,mem_filter -> iQ,drop_drop -> iW,all_cons -> jB,lt_trans -> jC
open Ke renaming strip -> aB,norm -> aF,okb -> aS,join -> aV,digits -> aX,check -> bT,MP -> bU,words -> cO,digit -> cZ,a2e -> dF,val -> dG,JE -> dH,ZT -> dI,WZ -> dY,OT -> eP,rows -> fC,cutAt -> fF,JO -> fM,PG -> fO,rep -> iD,c5N -> iK,a3s -> iR,char -> iT,number -> iZ,a2i -> jI
open Go.Proofs.Tryz renaming prog -> aG,func127 -> jE
open Go.Utf8 renaming decode -> aI,encode -> aN,valid -> fB
open Go.Sx.EH renaming one -> aJ
open UInt8 renaming ofNat -> aK,ofNat_toNat -> dM,toNat_inj -> dZ
open Go.Sx.J renaming ev -> aT,z -> bI,op -> bP,perm -> dD,persist -> gX
open Nat renaming zero_le -> aU,lt_or_ge -> bQ,min_eq_left -> dJ,mul_le_mul -> eH,le_of_ble_eq_true -> fZ,zero_add -> gZ,le_refl -> iJ
open Bool renaming noConfusion -> bC,and_eq_true -> dQ
open Go.Lib renaming indexByte -> bD,trimS -> gY,joinTail -> iM,validRune -> jA,join -> jJ
open Go.Value renaming int -> bF
open Go.Sx.Ej renaming round -> bK,keep -> bW,b9o -> iI
open Go.Sx.Cj renaming loop -> bV,EX -> dV,cond -> iE
open Int renaming natCast_mul -> bY
open List.Sublist renaming cons -> dA,refl -> iG
open Go.Sx.Pure renaming of_same -> dK,of_below -> gJ
open Go.Sx.JA renaming zt -> dW,ev -> fK
open Go.Sx.yY renaming toPure -> fA
open Go.Sx.Keeps renaming d -> fD,k -> fE,r -> iU
open Go.Ending renaming returned -> fQ
open Go.Sx.AU renaming z -> fU
open Eq renaming trans -> gG,symm -> iF
open Go.Instr renaming sliceBounds -> iH,sliceAt -> jD,slice -> jK
open Go.Sx.Pull renaming z -> iO,s -> jF
open Go.IntKind renaming signed -> iV,wrap -> jG,bits -> jH,u8 -> jL
open Go.Sx.Src renaming slice -> iY
section
namespace Go.Proofs.YtekmeaoblpfnpaaGreatDoor
open _root_.Go.Proofs.Tryz
open Go Go.Sx
theorem b6Y s c I:Pure aG 298 [str s,str [c]] I (i64 (bD s c)):=
 dK (Enters.of func298 dE rfl) fun w _=>by
  have h:=Tryz.stringslite_Index_one ⟨s.toArray⟩ c w;rw[NW]at h;exact h
theorem c4I s c (hs:s.length≤1000000000) I:Pure aG 266 [str s,str [c]] I (.tuple #[str (fF c s).1,str (fF c s).2.1,.bool (fF c s).2.2]):=by
 refine zQ func266 fun w0 _=>?_;refine zX (b6Y s c _) ?_;refine zK ?_ ?_<;>intro N O
 ·obtain⟨n,W,_,Z⟩:=(Ke.a3p c s).resolve_left (fun h=>by have:=ED N;omega);refine Cj.ev 7 (i64 (n:Int)) rfl (zC i64 W) ?_;refine yU 1 ?_;refine dV [] [] 12 kR ?_;refine yU 2 ?_;refine dW 2 rfl (CP (p:=0) (q:=n) rfl rfl BQ rfl ⟨_,rfl⟩ oM oM) ?_;refine fK 15 (str (s.take n)) rfl (by rw[dB]) ?_;refine yU 4 ?_;refine dW 7 rfl (NQ rfl rfl rfl (IU (by simp only[aO,aW];omega))) ?_;refine dW 8 rfl (CP (p:=n+1) (q:=s.length) rfl rfl BQ ⟨_,rfl⟩ rfl oM oM) ?_;refine fK 21 (str (s.drop (n+1))) rfl (by rw[bJ]) ?_;refine yU 7 ?_;refine Ej.c0S rfl rfl rfl rfl rfl ?_;refine⟨?_,rfl,rfl⟩;rw[Z]
 have g:=(Ke.a3p c s).resolve_right (fun⟨n,h,_⟩=>by have:=FQ N;omega);refine yU 11 ?_;refine Ej.c0S rfl rfl rfl rfl rfl ?_;refine⟨?_,rfl,rfl⟩;rw[g.2];rfl
theorem c5n s c (N:s.length≤1000000000) I:Pure aG 233 [str s,str [c]] I (.tuple #[str (fF c s).1,str (fF c s).2.1,.bool (fF c s).2.2]):=by
 refine zQ func233 fun w0 _=>?_;refine zX (c4I s c N _) ?_;refine yU 9 ?_;refine Ej.c0S rfl rfl rfl rfl rfl ?_;exact rT
theorem b3h W rc I (a3:I W=some (yX 9 (iK.map str))):yY aG 182 [.slice (some ⟨W,0,none⟩) 31 rc] I []
 (fun e I' H'=>∃tb,e= .returned (.map (some tb))∧H'=[(tb,zY (fun a:Int=>bF .i32 a) (iR Ke.tab) 207)]):=by
 refine zQ func182 fun w0 _=>?_;refine yU 7 ?_;refine bP rfl (BH rfl rfl rfl ?_);intro O _;refine yU 12 ?_;refine bV (ι:=Nat) (fun k=>k≤31) (fun k=>31-k) (fun k=>[(3,.map (some O)),(12,.slice (some ⟨W,0,none⟩) 31 rc),(13,.int .i64 ((31:Nat):Int)),(14,i64 (k:Int))]) (fun k=>_) (fun k=>[(O,zY (fun a:Int=>bF .i32 a) (iR (fM (fC.take k))) (fM (fC.take k)).length)]) 0 (aU _) rT rfl rfl ?_;intro k _;refine zK ?_ ?_<;>intro a0 a2
 ·have a4:k<31:=by have:=ED a0;omega
  obtain⟨⟨a,b⟩,N⟩:∃p,fC[k]?=some p:=⟨_,BM (show k<fC.length from a4)⟩;obtain⟨ha,a5,a6⟩:=Ke.a8r _ (CX N);have a7:(iK.map str)[k]?=some (str (a++32::b)):=by simp[iK,N]
  refine zW k ?_;refine bI (DU CU (yZ.LK a3) a7) ?_;refine zX (c5n (a++32::b) 32 (by dsimp only at a5 a6;simp;omega) _) ?_;refine aT 20 (.tuple #[str a,str b,.bool true]) rfl (by rw[Ke.a9i ha]) ?_;refine yU 12 ?_;refine bP rfl (a2r rfl rfl rfl rfl BQ ?_);intro b3 _;refine yU 3 ?_;refine bV (ι:=Nat×List Nat) (fun j=>j.1≤b.length∧Ke.runes b=j.2++Ke.runes (b.drop j.1)) (fun j=>b.length-j.1) (fun j=>[(3,.map (some O)),(6,str a),(12,.slice (some ⟨W,0,none⟩) 31 rc),(13,.int .i64 ((31:Nat):Int)),(14,i64 (k:Int)),(25,ptr b3 0)]) (fun j=>_) (fun j=>[(b3,.stringIter ⟨b.toArray⟩ j.1),(O,zY (fun a:Int=>bF .i32 a) (iR (fM (fC.take k)++j.2.map (·,a))) (fM (fC.take k)++j.2.map (·,a)).length)]) (0,[]) ⟨aU _,rfl⟩ rT rfl sI ?_;rintro⟨i,x⟩ ⟨hi,Z⟩;dsimp only at hi Z ⊢;rcases bQ i b.length with hp|hp
  ·have hw:=fO b hp;have a1:=Ke.fresh N (Ke.a4E Z hp);refine yU 2 ?_;refine bP rfl (a3R 0 rfl rfl rfl rfl rfl (by rw[size_mk];omega) fU ?_);refine yU 18 ?_;refine bP rfl (ES (kv:=fun a:Int=>bF .i32 a) (a:=((aI ⟨b.toArray⟩ i).1:Int)) 1 (.inr rfl) rfl rfl rfl rfl rfl underlying200 (ET.int b5t) rfl (AU.s fU) ?_);rw[(Ke.b2a (s:=a) a1).1,(Ke.b2a (s:=a) a1).2];refine yU 2 ?_;refine bK (i+(aI ⟨b.toArray⟩ i).2,x++[(aI ⟨b.toArray⟩ i).1]) ⟨hw.2,Ke.b0D Z hp⟩ dO rT rfl (by simp only[dX,dP,List.map_nil,eY])

  refine yU 2 ?_;refine bP rfl (YB 0 rfl rfl rfl rfl rfl (by rw[size_mk];omega) ?_);refine yU 15 ?_;refine bW (fD (fE Keeps.n)) ?_;refine bK (k+1) oM oM rT rfl (by rw[Ke.a4m N,Ke.b5n Z oM])
 refine yU 12 ?_;obtain rfl:k=31:=oM;refine zV ?_;have he:fM (fC.take 31)=Ke.tab:=by rw[aQ dE];exact Ke.a5O
 refine⟨O,rfl,?_⟩;rw[he];rfl
theorem b9K:yX 9 (iK.map str)=yX 9 [str [97,32,195,160,195,161,195,162,195,163,195,164,195,165,196,129,196,131,196,133,195,128,195,129,195,130,195,131,195,132,195,133,196,128,196,130,196,132],str [99,32,195,167,196,135,196,137,196,139,196,141,195,135,196,134,196,136,196,138,196,140],str [100,32,196,143,196,145,195,176,196,142,196,144,195,144],str [101,32,195,168,195,169,195,170,195,171,196,147,196,149,196,151,196,153,196,155,195,136,195,137,195,138,195,139,196,146,196,148,196,150,196,152,196,154],str [103,32,196,157,196,159,196,161,196,163,196,156,196,158,196,160,196,162],str [104,32,196,165,196,167,196,164,196,166],str [105,32,195,172,195,173,195,174,195,175,196,169,196,171,196,173,196,175,196,177,195,140,195,141,195,142,195,143,196,168,196,170,196,172,196,174,196,176],str [106,32,196,181,196,180],str [107,32,196,183,196,182],str [108,32,196,186,196,188,196,190,197,130,196,185,196,187,196,189,197,129],str [110,32,195,177,197,132,197,134,197,136,195,145,197,131,197,133,197,135],str [111,32,195,178,195,179,195,180,195,181,195,182,195,184,197,141,197,143,197,145,198,161,195,146,195,147,195,148,195,149,195,150,195,152,197,140,197,142,197,144,198,160],str [114,32,197,149,197,151,197,153,197,148,197,150,197,152],str [115,32,197,155,197,157,197,159,197,161,197,154,197,156,197,158,197,160],str [116,32,197,163,197,165,197,167,197,162,197,164,197,166],str [117,32,195,185,195,186,195,187,195,188,197,169,197,171,197,173,197,175,197,177,197,179,198,176,195,153,195,154,195,155,195,156,197,168,197,170,197,172,197,174,197,176,197,178,198,175],str [119,32,197,181,197,180],str [121,32,195,189,195,191,197,183,195,157,197,184,197,182],str [122,32,197,186,197,188,197,190,197,185,197,187,197,189],str [97,101,32,195,166,195,134],str [111,101,32,197,147,197,146],str [115,115,32,195,159],str [116,104,32,195,190,195,158],str [206,177,32,206,172,206,134],str [206,181,32,206,173,206,136],str [206,183,32,206,174,206,137],str [206,185,32,206,175,207,138,206,144,206,138,206,170],str [206,191,32,207,140,206,140],str [207,133,32,207,141,207,139,206,176,206,142,206,171],str [207,137,32,207,142,206,143],str [208,181,32,209,145,208,129]]:=kR
theorem b5i I:yY aG 128 [] I [] (fun e I' H'=>∃tb,e= .returned (.map (some tb))∧H'=[(tb,zY (fun a:Int=>bF .i32 a) (iR Ke.tab) 207)]):=by
 refine yY.ob func128 ?_;intro w0 _;refine Cj.sr (bI EP ?_);refine J.QT (bP rfl (ER CG AV NP (aJ rfl (aJ rfl (aJ rfl (aJ rfl (aJ rfl (aJ rfl (aJ rfl (aJ rfl (aJ rfl (aJ rfl (aJ rfl (aJ rfl (aJ rfl (aJ rfl (aJ rfl (aJ rfl (aJ rfl (aJ rfl (aJ rfl (aJ rfl (aJ rfl (aJ rfl (aJ rfl (aJ rfl (aJ rfl (aJ rfl (aJ rfl (aJ rfl (aJ rfl (aJ rfl (aJ rfl EH.none))))))))))))))))))))))))))))))) ?_));intro b1 W;refine gX W (fun _ _ N=>?_);refine bP rfl (zM (H1:=[]) rfl rfl rfl rfl rfl (b3h b1 _ _ (by rw[b9K];exact N)) ?_ (fun _ _ _ _ ⟨_,h,_⟩=>by cases h) (fun _ _ ⟨_,h,_⟩=>by cases h));intro _ _ _ O Z;have N:=O _ _ N;obtain⟨tb,h,rfl⟩:=Z;cases h;refine bI EP ?_;refine J.ns (Cj.ret ?_);refine Ej.ZO rfl rfl rfl ?_;exact⟨tb,rfl,rfl⟩
end Go.Proofs.YtekmeaoblpfnpaaGreatDoor
end
namespace Ke
theorem a1a c:(enc c).length≤4:=by grind [enc]
theorem GV:tab.all (fun p=>decide (p.2.length≤4))=true:=by decide +kernel
theorem a2c:∀{l:List (Nat×Bs)} {c:Nat} {s:Bs},l.lookup c=some s→∃p∈l,p.2=s
 |[],_,_,h=>by cases h
 |(a,b)::r,c,s,h=>by
  rw[List.lookup_cons]at h
  split at h
  ·cases h;exact⟨_,.head _,rfl⟩
  obtain⟨p,h1,h2⟩:=a2c h;exact⟨p,.tail _ h1,h2⟩
theorem a1E c:(char c).length≤4:=by
 unfold char
 split
 ·exact a1a c
 split
 ·exact a1a _
 split
 ·simp
 split
 ·simp
 split
 ·rename_i s N
  obtain⟨p,h1,rfl⟩:=a2c N;exact zA (aZ.1 GV p h1)
 split
 ·exact a1a _
 split
 ·exact a1a _
 split
 ·exact a1a _
 simp
theorem a5Y w:wf w []=if w=[]then[]else[w]:=rfl
theorem c2r{c}(h:char c≠[32]) w r:wf w (c::r)=wf (w++char c) r:=by
 show(if char c=[32]then _ else _)=_;rw[zD h]
theorem b7U{c}(h:char c=[32]){w}(N:w≠[]) r:wf w (c::r)=w::wf [] r:=by
 show(if char c=[32]then(if w=[]then _ else _)else _)=_;rw[zF h,zD N]
theorem b4F{c}(h:char c=[32]) r:wf [] (c::r)=wf [] r:=by
 show(if char c=[32]then(if ([]:Bs)=[]then _ else _)else _)=_;rw[zF h,zF rfl]
theorem drop_at{α:Type}{l:List α}{k x r}(h:l.drop k=x::r):l[k]?=some x∧l.drop (k+1)=r:=by
 have h1:=zC List.head? h;have h2:=zC List.tail h;rw[List.head?_drop]at h1;rw[List.tail_drop]at h2;exact⟨h1,h2⟩
structure PE (s:Bs) (i k:Nat) (w:Bs):Prop where
  le:i≤s.length
  wl:w.length≤4*i
  kl:k≤(words s).length
  eq:(words s).drop k=wf w (runes (s.drop i))
theorem PE.start s:PE s 0 0 []:=⟨aU _,aU _,aU _,rfl⟩
theorem PE.in{s i k w}(h:PE s i k w)(N:i<s.length)(O:char (aI ⟨s.toArray⟩ i).1≠[32]):PE s (i+(aI ⟨s.toArray⟩ i).2) k (w++char (aI ⟨s.toArray⟩ i).1):=by
 obtain⟨h1,h2⟩:=PG s N;refine⟨h2,?_,h.kl,by rw[h.eq,ZJ N,c2r O]⟩;have:=a1E (aI ⟨s.toArray⟩ i).1;have:=h.wl;rw[aC];omega
theorem PE.c6u{s i k}(h:PE s i k [])(N:i<s.length)(O:char (aI ⟨s.toArray⟩ i).1=[32]):PE s (i+(aI ⟨s.toArray⟩ i).2) k []:=by
 obtain⟨h1,h2⟩:=PG s N;exact⟨h2,sI,h.kl,by rw[h.eq,ZJ N,b4F O]⟩
theorem PE.out{s i k w}(h:PE s i k w)(N:i<s.length)(Z:char (aI ⟨s.toArray⟩ i).1=[32])(hw:w≠[]):(words s)[k]?=some w∧PE s (i+(aI ⟨s.toArray⟩ i).2) (k+1) []:=by
 obtain⟨h1,h2⟩:=PG s N;have O:=h.eq;rw[ZJ N,b7U Z hw]at O;obtain⟨W,g2⟩:=drop_at O;exact⟨W,h2,sI,(aA.1 W).1,g2⟩
theorem PE.last{s i k w}(h:PE s i k w)(hi:¬i<s.length)(W:w≠[]):(words s)[k]?=some w∧k+1=(words s).length:=by
 have N:=h.eq;rw[XG oM,a5Y,zD W]at N;obtain⟨O,Z⟩:=drop_at N;have:=zC eU Z;have:=(aA.1 O).1;simp at *;exact⟨O,oM⟩
theorem PE.QW{s i k}(h:PE s i k [])(O:¬i<s.length):k=(words s).length:=by
 have N:=h.eq;have:=h.kl;rw[XG oM,a5Y,zF rfl]at N;have:=zC eU N;simp at this;omega
def total:List Bs→Nat
 |[]=>0
 |a::r=>a.length+total r
theorem a2T:∀(r:List Nat) (w:Bs),(wf w r).length≤r.length+1∧total (wf w r)≤w.length+4*r.length
 |[],w=>by
  unfold wf
  split
  ·exact⟨sI,by simp[total]⟩
  exact⟨sI,by simp[total]⟩
 |c::r,w=>by
  unfold wf;have h0:=a2T r []
  split
  ·split
   ·simp only[aO,aW]at *;omega
   simp only[aO,aW,total]at *;omega
  have h1:=a2T r (w++char c);have h2:=a1E c;simp only[aO,aC]at *;omega
theorem RX:∀l:List Bs,(join l).length≤total l+l.length
 |[]=>by simp[join]
 |[a]=>by simp[join,total]
 |a::b::r=>by
  have:=RX (b::r);simp only[join,total,aC,aO,aW]at *;omega
theorem KG s:(words s).length≤s.length+1∧(join (words s)).length≤5*s.length+1:=by grind [words,runes,aW,a2T,RX,WY]
theorem PY s:∀w∈words s,w.length≤4*s.length:=by
 have h:∀(l:List Bs),∀w∈l,w.length≤total l:=by
  intro l
  induction l with
  |nil=>intro w N;cases N
  |cons a r O=>
   intro w N;rcases bH.1 N with rfl|N
   ·simp[total]
   have:=O w N;simp only[total];omega
 intro w N;have h1:=(a2T (runes s) []).2;have h3:=WY s.length s;have W:=h _ w N;unfold words runes at *;simp only[aW]at h1;omega
theorem a9M:∀l:List Bs,jJ l [32]=join l
 |[]=>rfl
 |[a]=>Go.Lib.join_one a [32]
 |a::b::r=>by
  have h:=a9M (b::r);rw[Go.Lib.join_cons]at h ⊢;show a++iM [32] (b::r)=a++[32]++join (b::r);rw[←h];simp[iM]
def a0G:Bs:=[48,49,50,51,52,53,54,55,56,57]
theorem a6p c:a0G.contains c=digit c:=by
 have h:∀n<256,a0G.contains (aK n)=digit (aK n):=by decide +kernel
 have:=h c.toNat c.toNat_lt
 rwa [dM]at this
theorem a2v{p c}:∀{l:Bs},c∈l→p c=false→c∈l.dropWhile p
 |[],h,_=>by cases h
 |d::r,h,hp=>by
  rw[gQ]
  split
  ·rename_i N
   rcases bH.1 h with rfl|h
   ·rw[hp]at N;cases N
   exact a2v h hp
  exact h
theorem b0I{p}:∀{l:Bs},(∀c∈l,p c=true)→l.dropWhile p=[]
 |[],_=>rfl
 |d::r,h=>by rw[List.dropWhile_cons_of_pos (h d (.head _))];exact b0I fun c N=>h c (.tail _ N)
theorem a4x s:(gY s a0G == [])=digits s:=by
 unfold gY Go.Lib.trimLeftS Go.Lib.trimRightS digits;cases hd:s.all digit with
 |true=>
  have h:∀c∈s.reverse,a0G.contains c=true:=fun c N=>by rw[a6p];exact aZ.1 hd c (fG.1 N)
  rw[b0I h];rfl
 |false=>
  obtain⟨c,N,O⟩:∃c∈s,digit c=false:=by
   have:=List.all_eq_false.1 hd;obtain⟨c,N,O⟩:=this;exact⟨c,N,by simpa using O⟩
  have h1:a0G.contains c=false:=by rw[a6p];exact O
  have h2:=a2v (p:=(a0G.contains ·)) (fG.2 (a2v (p:=(a0G.contains ·)) (fG.2 N) h1)) h1;rw[beq_eq_false_iff_ne];intro W;rw[W]at h2;cases h2
theorem dropLast_take(w:Bs):w.take (w.length-1)=w.dropLast:=by rw[fV]
theorem a7T w:(strip w).length≤w.length+1:=by
 unfold strip;have h:∀(l:Bs) (p:UInt8→Bool),(l.dropWhile p).length≤l.length:=by
  intro l p
  induction l with
  |nil=>simp
  |cons a r N=>rw[gQ];split<;>simp only[aO]<;>omega
 have:=h w.dropLast (· == 48);rw[aC,fH];rw[List.length_dropLast]at this;omega
theorem b2l w:(JE w).length≤w.length+3:=by grind [JE,number,aC,aO,aW,a7T]
theorem a4N s:(join ((words s).map JE)).length≤8*s.length+4:=by
 have h1:=a2T (runes s) [];have h3:=WY s.length s;have h2:=RX ((words s).map JE);have N:∀l:List Bs,total (l.map JE)≤total l+3*l.length:=by
  intro l
  induction l with
  |nil=>simp[total]
  |cons a r O=>
   have:=b2l a;simp only[dP,total,aO];omega
 have W:=N (words s);rw[bG]at h2;unfold words runes at *;simp only[aW]at h1;omega
end Ke
section
namespace Go.Proofs.YtekmeaoblpfnpaaGreatDoor
open Go Go.Sx
theorem b3u b l p g (N:BL 0 1 l.length (EF l) g) I:yY aG 131 [ptr b 0] I (GK b l p g) (fun e O H'=>e= .returned (i64 l.length)∧H'=GK b l p g):=
 (yY.frame (gH 5 (EF l) g) (c5F b _ l.length g N I)).mono fun _ _ _ _ ⟨H1,h1,h2,h3⟩=>⟨h2,by rw[h1,h3];rfl⟩
theorem a9n b x y R I:yY aG 133 [ptr b 0] I ((b,yX 204 [x,y])::R) (fun e N H'=>e= .returned (.tuple #[])∧H'=GK b [] false none):=
 (yY.frame R (c0R b x y I)).drop fun _ _ _ ⟨H1,h1,h2,h3⟩=>⟨_,by rw[h1,h3];exact List.sublist_append_left _ _,h2,rfl⟩
structure WSt where
  i:Nat
  w:List UInt8
  p:Bool
  g:Gs
  k:Nat
  I:Heap
  H:HL
theorem a8a sb s (hs:s.length≤1000000000) I (N:I sb=some (yX 9 [str s])):Gen aG 127 [] [ptr sb 0] I ((cO s).map fun w=>[str w]):=by
 refine⟨Enters.of jE dE rfl,fun l Y Z W al H aa=>?_⟩;refine zQ jE fun w0 _=>?_;refine LD (b5i _) ?_;intro _ I3 _ ae aw ax;have N:=ae _ _ N;obtain⟨tb,h,rfl⟩:=ax;cases h;have aa:=W _ _ _ _ ae aa;refine gX (aw _ (.head _)) (fun _ af O=>?_);have N:=af _ _ N;have aa:=W _ _ _ _ af aa;refine yU 6 ?_;intro b7 _;refine yU 6 ?_;refine bP rfl (a2r rfl rfl rfl rfl BQ ?_);intro b8 _;refine yU 3 ?_;refine bV (ι:=WSt) (fun j=>Ke.PE s j.i j.k j.w∧BL 0 1 j.w.length (EF j.w) j.g∧(Tab j.I tb∧j.I sb=some (yX 9 [str s]))∧Y j.k j.I j.H) (fun j=>s.length-j.i) (fun j=>[(0,.func (.yield l) #[] #[]),(3,.map (some tb)),(4,ptr b7 0),(10,ptr b8 0)]) (fun j=>j.I) (fun j=>(b8,.stringIter ⟨s.toArray⟩ j.i)::(GK b7 j.w j.p j.g++j.H)) ⟨0,[],false,none,0,_,H⟩ ⟨Ke.PE.start s,⟨rfl,rfl⟩,⟨O,N⟩,aa⟩ rT rfl rfl ?_;rintro⟨i,w,p,g,k,I,H⟩ ⟨hw,hg,⟨O,N⟩,hY⟩;dsimp only at hw hg O N hY ⊢;have b1:=hw.wl;have b2:=hw.le;rcases bQ i s.length with hp|hp
 ·have hd:=fO s hp;have ay:=Ke.decode_le s i;refine yU 2 ?_;refine bP rfl (a3R 0 rfl rfl rfl rfl rfl (by rw[size_mk];omega) fU ?_);refine zX (QM _ tb ay _ O) ?_;refine zK ?_ ?_<;>intro ab ai
  ·have hc:iT (aI ⟨s.toArray⟩ i).1≠[32]:=bne_iff_ne.1 ab;refine yU 3 ?_;refine dD (H':=GK _ _ _ _++(_::_)) aP ?_;refine bP rfl (zM (H1:=GK _ _ _ _) (R:=_::_) rfl rfl rfl rfl rfl (JF _ w (iT (aI ⟨s.toArray⟩ i).1) p g hg oM (by have:=Ke.a1E (aI ⟨s.toArray⟩ i).1;omega) _) ?_ (fun _ _ _ _ h=>by cases h.1) (fun _ _ h=>by cases h.1));intro _ _ _ a3 an;have N:=a3 _ _ N;have O:=O.mono a3;obtain⟨h,g2,az,rfl⟩:=an;cases h;have hY:=W _ _ _ _ a3 hY;refine dD (H':=_::(_++_)) aP.symm ?_;refine yU 5 ?_;refine bK ⟨i+(aI ⟨s.toArray⟩ i).2,w++iT (aI ⟨s.toArray⟩ i).1,true,g2,k,_,H⟩ ⟨hw.in hp hc,az,⟨O,N⟩,hY⟩ dO rT rfl rfl
  have hc:iT (aI ⟨s.toArray⟩ i).1=[32]:=by have h:=ab;simpa using h
  refine yU 5 ?_;refine dD (H':=GK _ _ _ _++(_::_)) aP ?_;refine bP rfl (zM (H1:=GK _ _ _ _) (R:=_::_) rfl rfl rfl rfl rfl (b3u _ w p g hg _) ?_ (fun _ _ _ _ h=>by cases h.1) (fun _ _ h=>by cases h.1));intro _ _ _ a4 ao;have N:=a4 _ _ N;have O:=O.mono a4;obtain⟨h,rfl⟩:=ao;cases h;have hY:=W _ _ _ _ a4 hY;refine dD (H':=_::(_++_)) aP.symm ?_;refine FM ?_ ?_<;>intro a0
  ·have a1:w≠[]:=fun h=>by have:=ED a0;rw[h]at this;simp at this
   refine yU 1 ?_;refine dD (H':=GK _ _ _ _++(_::_)) aP ?_;refine J.opG 2 23 true _ rfl rfl rfl a0 (zM (H1:=GK _ _ _ _) (R:=_::_) rfl rfl rfl rfl rfl (a2H _ w p g hg (fun h=>absurd h a1) oM _) ?_ (fun _ _ _ _ h=>by cases h.1) (fun _ _ h=>by cases h.1));intro _ _ _ a5 ap;have N:=a5 _ _ N;have O:=O.mono a5;obtain⟨h,y0,z0,rfl⟩:=ap;cases h;have hY:=W _ _ _ _ a5 hY;refine dD (H':=_::(_++_)) aP.symm ?_;refine J.c4V [_,_] 2 23 true _ rfl rfl rfl a0 rfl rfl rfl rfl rfl (al k [str w] (by rw[dN,(hw.out hp hc a1).1];rfl) _ H hY) ?_ (fun _ _ _ h=>by rcases h with⟨h,_⟩|⟨h,_⟩<;>cases h) (fun _ _ h=>by rcases h with⟨h,_⟩|⟨h,_⟩<;>cases h);intro v3 I3 H3 a2 ag;have N:=a2 _ _ N;have O:=O.mono a2;obtain⟨_,h3,am⟩:∃t:Bool,v3= .bool t∧((t=true∧Y (k+1) I3 H3)∨(t=false∧Z I3 H3)):=by
    rcases ag with⟨h,h2⟩|⟨h,h2⟩
    ·cases h;exact⟨true,rfl,.inl ⟨rfl,h2⟩⟩
    cases h;exact⟨false,rfl,.inr ⟨rfl,h2⟩⟩
   subst h3;refine DI ?_ ?_<;>intro ac
   ·have b0:Z I3 H3:=by
     rcases am with⟨rfl,_⟩|⟨_,h⟩
     ·exact bC ac
     exact h
    refine yU 6 ?_;refine bW (H':=H3) (dA _ (dA _ (iG _))) ?_;exact Ej.a5u rfl rfl ⟨rfl,.inr b0⟩
   have ah:Y (k+1) I3 H3:=by
    rcases am with⟨_,h⟩|⟨rfl,_⟩
    ·exact h
    exact bC ac
   refine yU 3 ?_;refine dD (H':=[_]++(_::_)) aP ?_;refine bP rfl (zM (H1:=[_]) (R:=_::_) rfl rfl rfl rfl rfl (a9n _ _ _ _ _) ?_ (fun _ _ _ _ h=>by cases h.1) (fun _ _ h=>by cases h.1));intro _ _ _ a6 aq;have N:=a6 _ _ N;have O:=O.mono a6;obtain⟨h,rfl⟩:=aq;cases h;have ah:=W _ _ _ _ a6 ah;refine dD (H':=_::(_++_)) aP.symm ?_;refine yU 2 ?_;refine bK ⟨i+(aI ⟨s.toArray⟩ i).2,[],false,none,k+1,_,H3⟩ ⟨(hw.out hp hc a1).2,⟨rfl,rfl⟩,⟨O,N⟩,ah⟩ dO rT rfl rfl
  obtain rfl:w=[]:=dL.1 (by have:=FQ a0;omega);refine yU 11 ?_;refine dD (H':=GK _ _ _ _++(_::_)) aP ?_;refine bP rfl (zM (H1:=GK _ _ _ _) (R:=_::_) rfl rfl rfl rfl rfl (a9n _ _ _ _ _) ?_ (fun _ _ _ _ h=>by cases h.1) (fun _ _ h=>by cases h.1));intro _ _ _ a7 ar;have N:=a7 _ _ N;have O:=O.mono a7;obtain⟨h,rfl⟩:=ar;cases h;have hY:=W _ _ _ _ a7 hY;refine dD (H':=_::(_++_)) aP.symm ?_;refine yU 2 ?_;refine bK ⟨i+(aI ⟨s.toArray⟩ i).2,[],false,none,k,_,H⟩ ⟨hw.c6u hp hc,⟨rfl,rfl⟩,⟨O,N⟩,hY⟩ dO rT rfl rfl

 refine yU 2 ?_;refine bP rfl (YB 0 rfl rfl rfl rfl rfl (by rw[size_mk];omega) ?_);refine yU 12 ?_;refine dD (H':=GK _ _ _ _++(_::_)) aP ?_;refine bP rfl (zM (H1:=GK _ _ _ _) (R:=_::_) rfl rfl rfl rfl rfl (b3u _ w p g hg _) ?_ (fun _ _ _ _ h=>by cases h.1) (fun _ _ h=>by cases h.1));intro _ _ _ a8 au;have N:=a8 _ _ N;have O:=O.mono a8;obtain⟨h,rfl⟩:=au;cases h;have hY:=W _ _ _ _ a8 hY;refine dD (H':=_::(_++_)) aP.symm ?_;refine zK ?_ ?_<;>intro ad aj
 ·have a1:w≠[]:=fun h=>by have:=ED ad;rw[h]at this;simp at this
  refine yU 2 ?_;refine dD (H':=GK _ _ _ _++(_::_)) aP ?_;refine bP rfl (zM (H1:=GK _ _ _ _) (R:=_::_) rfl rfl rfl rfl rfl (a2H _ w p g hg (fun h=>absurd h a1) oM _) ?_ (fun _ _ _ _ h=>by cases h.1) (fun _ _ h=>by cases h.1));intro _ _ _ a9 av;have N:=a9 _ _ N;have O:=O.mono a9;obtain⟨h,y0,z0,rfl⟩:=av;cases h;have hY:=W _ _ _ _ a9 hY;refine dD (H':=_::(_++_)) aP.symm ?_;refine J.yield [_,_] rfl rfl rfl rfl rfl rfl (al k [str w] (by rw[dN,(hw.last oM a1).1];rfl) _ H hY) ?_ (fun _ _ _ h=>by rcases h with⟨h,_⟩|⟨h,_⟩<;>cases h) (fun _ _ h=>by rcases h with⟨h,_⟩|⟨h,_⟩<;>cases h);intro v3 I3 H3 a2 ag;have N:=a2 _ _ N;have O:=O.mono a2;refine yU 1 ?_;refine bW (H':=H3) (dA _ (dA _ (iG _))) ?_;refine Ej.QW rfl rfl ⟨rfl,?_⟩;rcases ag with⟨_,h2⟩|⟨_,h2⟩
  ·refine .inl ?_;rw[bG,←(hw.last oM a1).2];exact h2
  exact .inr h2
 obtain rfl:w=[]:=dL.1 (by have:=FQ ad;omega);refine yU 1 ?_;refine bW (H':=H) (dA _ (List.sublist_append_right _ _)) ?_;refine Ej.QW rfl rfl ⟨rfl,.inl ?_⟩;rw[bG,←hw.QW oM];exact hY
end Go.Proofs.YtekmeaoblpfnpaaGreatDoor
end
section
namespace Go.Proofs.YtekmeaoblpfnpaaGreatDoor
open _root_.Go.Proofs.Tryz
open Go Go.Sx
theorem a6W l v (hl:l.length≤1000000000000)(Z:(aV l).length≤1000000000000) I (hv:IG 9 I l v):Pure aG 203 [v,str [32]] I (str (aV l)):=by
 rcases hv with⟨rfl,rfl⟩|⟨b,c,sp,rfl,hc,hb⟩
 ·exact dK (Enters.of func203 dE rfl) fun w _=>(Tryz.strings_Join_none none 0 ⟨#[32]⟩ w).mono fun e w' ⟨h1,h2⟩=>⟨by rw[h1];rfl,h2⟩
 refine gJ (Enters.of func203 dE rfl) fun w hw=>?_;have a0:=hw.1 _ _ hb;have a1:b<w.heap.size:=by
  rcases bQ b w.heap.size with h'|h'
  ·exact h'
  simp[Array.getElem?_eq_none h']at a0
 have O:(l.map fun x=>(⟨x.toArray⟩:ByteArray)).map (fun x=>x.data.toList)=l:=by
  rw[List.map_map];exact(gU fun x _=>sI).trans (List.map_id l)
 have N:jJ l [32]=aV l:=Ke.a9M l;have h:=Tryz.strings_Join b 0 c (l.map fun x=>⟨x.toArray⟩) ⟨#[32]⟩ w (fun j x W=>by
  rw[dN]at W;cases Z:l[j]? with
  |none=>rw[Z]at W;cases W
  |some y=>
   rw[Z]at W;cases W;rw[gZ];exact cell_of_heap a0 (FT Z)) a1 (by simp;omega) (by simpa using hc) (by rw[O,show(⟨#[32]⟩:ByteArray).data.toList=[32] from rfl,N];omega)
 rw[O,show(⟨#[32]⟩:ByteArray).data.toList=[32] from rfl,N,bG]at h;exact h
theorem b1w s I:yY aG 76 [str s] I [] (fun e O H'=>∃b,e= .returned (.func (.func 127) #[] #[ptr b 0])∧H'=[(b,yX 9 [str s])]):=by
 refine zQ func76 fun w0 _=>?_;refine yU 3 ?_;intro N _;refine zV ?_;exact⟨N,rfl,rfl⟩
theorem KI {l : List (List UInt8)} {k x} (h : l[k]? = some x) : (l.take (k + 1)).map str = (l.take k).map str ++ [str x] := by
  obtain ⟨hlt, hg⟩ := List.getElem?_eq_some_iff.1 h
  rw [List.take_succ_eq_append_getElem hlt, hg, List.map_append]; rfl
theorem b0H(ws:List (List UInt8)) f fst cap I (hl:ws.length≤1000000000000)(W:Gen aG f fst cap I (ws.map fun w=>[str w])):yY aG 126 [.slice none 0 0,.func (.func f) fst.toArray cap.toArray] I []
 (fun e I' H'=>∃g,BL 0 1 ws.length (ws.map str) g∧e= .returned (gV ws.length g)∧H'=gH 9 (ws.map str) g):=by
 refine yY.a9P func126 rfl dE (fZ rfl) ?_;intro w0 _;refine yU 3 ?_;intro b1 _;refine yU 10 ?_;refine Cj.rangeFunc (ps:=[7]) (H1:=[_]) (R:=[]) (ws.map fun w=>[str w]) (fun k I' H'=>k≤ws.length∧∃g,BL 0 1 k ((ws.take k).map str) g∧H'=(b1,yX 69 [gV k g])::gH 9 ((ws.take k).map str) g) (fun _ _ _=>False) rfl (b4t rfl) (seq1 _ _) rfl W (fun _ _ _ _ _ h=>h) ⟨aU _,none,⟨rfl,rfl⟩,rfl⟩ ?_ ?_ ?_
 ·intro l r k args _ _ _ hk a0 N;obtain⟨x,Z,rfl⟩:=b4l hk;obtain⟨a1,g,O,rfl⟩:=N;have a2:=(aA.1 Z).1;refine yU 3 ?_;refine Ej.asg ?_;refine yU 5 ?_;intro _ _;refine bP rfl (NG 0 (aU _) (by':=15) [_,_,_] rfl rfl rfl rfl rfl CG (.inr ⟨_,CG⟩) kR AV NP rfl O rfl (iY (yZ.at 0 rfl) rfl rfl rfl) oM ?_);intro _ a3;refine yU 3 ?_;refine Ej.pull (jF iO) ?_;refine bW (fE (fD (fE iU))) ?_;exact iI ⟨a2,_,by rw[KI Z];exact a3,by rw[KI Z];rfl⟩
 ·intro _ _ _ a0 N;rw[bG]at N;obtain⟨a1,g,O,rfl⟩:=N;rw[bJ]at O;rw[bJ];refine Ej.OZ (Ej.seq (Cj.sr (bI (DF a3F (yZ.at 1 rfl)) ?_)));refine bI EP ?_;refine J.ns (Cj.ret ?_);refine Ej.b8c (.inl rfl) ?_;refine ZI.mark 0 rfl fU ?_;refine ZI.keep (fD (fD iU)) ?_;exact ZI.ZO rfl rfl ⟨g,O,rfl,fP _⟩
 exact fun _ _ _ _ _ hZ=>hZ.elim
theorem b4M(ws:List (List UInt8)) f fst cap I (W:ws.length≤1000000000000)(N:Gen aG f fst cap I (ws.map fun w=>[str w])):yY aG 75 [.func (.func f) fst.toArray cap.toArray] I []
 (fun e I' H'=>∃g,BL 0 1 ws.length (ws.map str) g∧e= .returned (gV ws.length g)∧H'=gH 9 (ws.map str) g):=by
 refine zQ func75 fun w0 _=>?_;refine AP (b0H ws f fst cap _ W N) ?_;intro _ _ _ _ O;obtain⟨g,Z,h,rfl⟩:=O;cases h;refine zV ?_;exact⟨g,Z,rfl,fP _⟩
theorem SA s (hs:s.length≤1000000000) I:yY aG 30 [str s] I [] (fun e I' H'=>∃v,e= .returned v∧IG 9 I' (cO s) v∧H'=[]):=by
 have a2:=Ke.KG s;refine zQ func30 fun w0 _=>?_;refine LD (b1w s _) ?_;intro _ _ _ _ Z a0;obtain⟨sb,h,rfl⟩:=a0;cases h;refine gX (Z _ (.head _)) (fun I9 _ N=>?_);refine LD (b4M (cO s) _ [] [ptr sb 0] _ oM (a8a sb s hs _ N)) ?_;intro _ I9 _ O a1 W;have N:=O _ _ N;obtain⟨g,hg,h,rfl⟩:=W;cases h;refine J.RU (hg.base a1) (fun _ _ hv=>?_);refine zV ?_;exact⟨_,rfl,hv,rfl⟩
end Go.Proofs.YtekmeaoblpfnpaaGreatDoor
end
section
namespace Go.Proofs.YtekmeaoblpfnpaaGreatDoor
open _root_.Go.Proofs.Tryz
open Go Go.Sx
theorem ascii_of_all{l:List UInt8}(h:l.all (fun b=>decide (b.toNat<128))=true):∀(j:Nat) b,(⟨l.toArray⟩:ByteArray).data.toList[j]?=some b→b.toNat<128:=fun j b N=>by
 rw[NW]at N;exact ED (aZ.1 h b (CX N))
theorem b3C s (N:s.length≤1000000000000) I:Pure aG 246 [str s,str Ke.a0G] I (str (gY s Ke.a0G)):=
 gJ (Enters.of func246 dE rfl) fun w _=>by
  have h:=Any.strings_Trim_laid Tryz.lays160 kR ⟨s.toArray⟩ ⟨Ke.a0G.toArray⟩ w (by rw[size_mk];omega) dE (ascii_of_all dE);rw[NW,NW]at h;exact h
theorem b1t s I:Pure aG 202 [str s,str [48]] I (str (s.dropWhile (· == 48))):=
 dK (Enters.of func202 dE rfl) fun w _=>by
  have h:=Tryz.strings_TrimLeft_one ⟨s.toArray⟩ 48 dE w;rw[NW]at h;exact h
theorem b5e{a b:Nat×Obj}{G:HL}:(G++[a,b]).Perm (a::(b::G++[])):=by
 rw[fP];exact List.perm_append_comm
theorem a0A{n:Nat}(h:n<256):jL.wrap (n:Int)=((aK n).toNat:Int):=by
 rw[show(aK n).toNat=n by simp;omega];simp[jG,jH,iV];omega
theorem YG{f}{l:List (List UInt8)}{k x}(h:l[k]?=some x):((l.take (k+1)).map f).map str=((l.take k).map f).map str++[str (f x)]:=by
 obtain⟨N,O⟩:=aA.1 h;rw[aH N,O,dX,dX];rfl
theorem a0T s (N:s.length≤1000000000000) I:Pure aG 201 [str s] I (.bool (aX s)):=by
 refine zQ func201 fun w0 _=>?_;refine zX (b3C s N _) ?_;refine zV ?_;exact⟨zC (fun b=>fQ (.bool b)) (Ke.a4x s),rfl,rfl⟩
theorem a0U s skip (hs:s.length≤100000000) I:Pure aG 138 [str s,i64 skip] I (str (Ke.GI s skip)):=by
 refine fA ?_;have ab:(Ke.cut s skip).length≤s.length:=by unfold Ke.cut;simp
 have ac:=Ke.KG (Ke.cut s skip);have ad:=Ke.a4N (Ke.cut s skip);refine yY.a9P func138 rfl dE (fZ rfl) ?_;intro w0 _;refine yU 9 ?_;refine bI (SK rfl rfl rfl) ?_;refine yU 2 ?_;refine bI (NT rfl rfl rfl) ?_;refine aT 13 (i64 (((min (max skip 0) (s.length:Int)).toNat:Nat):Int)) rfl (zC i64 oM) ?_;refine bI (CP (p:=(min (max skip 0) (s.length:Int)).toNat) (q:=s.length) rfl rfl BQ ⟨_,rfl⟩ rfl oM oM) ?_;refine aT 14 (str (Ke.cut s skip)) rfl (by rw[bJ];rfl) ?_;refine yU 6 ?_;intro b1 _;refine LD (b1w (Ke.cut s skip) _) ?_;intro _ _ _ _ a7 a8;obtain⟨sb,h,rfl⟩:=a8;cases h;refine gX (a7 _ (.head _)) (fun _ _ N=>?_);refine yU 3 ?_;refine Cj.rangeFunc (ps:=[17]) (H1:=[_]) (R:=[]) ((cO (Ke.cut s skip)).map fun w=>[str w]) (fun k _ H'=>k≤(cO (Ke.cut s skip)).length∧∃g,BL 0 1 k ((((cO (Ke.cut s skip)).take k).map dH).map str) g∧H'=(b1,yX 69 [gV k g])::gH 9 ((((cO (Ke.cut s skip)).take k).map dH).map str) g) (fun _ _ _=>False) rfl (b4t rfl) (seq1 _ _) rfl (a8a sb _ oM _ N) (fun _ _ _ _ _ h=>h) ⟨aU _,none,⟨rfl,rfl⟩,rfl⟩ ?_ ?_ ?_
 ·intro l r k args _ _ _ hk Z hY;have N:=Z _ _ N;obtain⟨x,W,rfl⟩:=b4l hk;obtain⟨a9,g,hg,rfl⟩:=hY;have a2:=(aA.1 W).1;have a3:=CX W;have ae:=Ke.PY _ x a3;have af:0<x.length:=List.length_pos_iff.2 (Ke.VP _ _ x a3);have aa:=Ke.a7T x;refine yU 3 ?_;refine Ej.asg ?_;refine zX (a0T x oM _) ?_;refine DI ?_ ?_<;>intro a0
  ·have a1:aX x=true:=a0;have O:dH x=iZ x:=by unfold dH;rw[a1];rfl
   refine yU 1 ?_;refine dV [] [] 13 kR ?_;refine yU 4 ?_;refine fK 23 (i64 ((x.length-1:Nat):Int)) rfl (zC i64 oM) ?_;refine dW 4 rfl (CP (p:=0) (q:=x.length-1) rfl rfl BQ rfl ⟨_,rfl⟩ oM oM) ?_;refine fK 24 (str (x.take (x.length-1))) rfl (by rw[dB]) ?_;refine yU 4 ?_;refine fK 29 (i64 ((x.length-1:Nat):Int)) rfl (zC i64 oM) ?_;refine dW 10 rfl (CP (p:=x.length-1) (q:=x.length) rfl rfl BQ ⟨_,rfl⟩ rfl oM oM) ?_;refine fK 30 (str (x.drop (x.length-1))) rfl (by rw[bJ]) ?_;refine zX (b1t (x.take (x.length-1)) _) ?_;refine yU 1 ?_;refine dW 11 rfl (AZ rfl rfl rfl (by rw[Ke.dropLast_take];have:=aa;unfold aB at this;rw[aC]at this;omega)) ?_;refine fK 31 (str (aB x)) rfl (by rw[Ke.dropLast_take];rfl) ?_;refine yU 7 ?_;refine bI (NT rfl rfl rfl) ?_;refine aT 34 (i64 ((min (aB x).length 99:Nat):Int)) rfl (zC i64 (by split<;>omega)) ?_;refine yU 5 ?_;refine bI (RG rfl rfl rfl dE (IU (by show _≤((min (aB x).length 99 / 10:Nat):Int)∧((min (aB x).length 99 / 10:Nat):Int)≤_;omega))) ?_;refine aT 36 (i64 ((min (aB x).length 99 / 10:Nat):Int)) rfl rfl ?_;refine yU 1 ?_;refine aT 37 (i64 ((48+min (aB x).length 99 / 10:Nat):Int)) rfl (zC i64 oM) ?_;refine yU 1 ?_;refine aT 38 (u8 (aK (48+min (aB x).length 99 / 10))) rfl (zC (bF .u8) (a0A oM)) ?_;refine yU 2 ?_;refine aT 40 (i64 ((min (aB x).length 99 % 10:Nat):Int)) rfl rfl ?_;refine yU 1 ?_;refine aT 41 (i64 ((48+min (aB x).length 99 % 10:Nat):Int)) rfl (zC i64 oM) ?_;refine yU 1 ?_;refine aT 42 (u8 (aK (48+min (aB x).length 99 % 10))) rfl (zC (bF .u8) (a0A oM)) ?_;refine yU 1 ?_;intro _ _;refine bI (JD [aK (48+min (aB x).length 99 / 10),aK (48+min (aB x).length 99 % 10)] rfl rfl rfl IJ BQ UZ (yZ.at 0 rfl) rfl) ?_;refine yU 1 ?_;refine bI (AZ rfl rfl rfl (by first|omega|(simp only[aC];omega)|(simp;omega))) ?_;refine aT 46 (str (iZ x)) rfl rfl ?_;refine yU 7 ?_;intro _ _;refine bP rfl (NG 0 (aU _) (by':=15) [_,_,_,_] rfl rfl rfl rfl rfl CG (.inr ⟨_,CG⟩) kR AV NP rfl hg rfl (iY (yZ.at 0 rfl) rfl rfl rfl) oM ?_);intro _ a4;refine yU 3 ?_;refine Ej.pull (jF (jF iO)) ?_;refine bW (fE (fD (fD (fE iU)))) ?_;exact iI ⟨a2,_,by rw[YG W,O];exact a4,by rw[YG W,O];rfl⟩
  have a1:aX x=false:=a0;have O:dH x=x:=by unfold dH;rw[a1];rfl
  refine yU 6 ?_;intro _ _;refine bP rfl (NG 0 (aU _) (by':=15) [_,_,_] rfl rfl rfl rfl rfl CG (.inr ⟨_,CG⟩) kR AV NP rfl hg rfl (iY (yZ.at 0 rfl) rfl rfl rfl) oM ?_);intro _ a5;refine yU 3 ?_;refine Ej.pull (jF iO) ?_;refine bW (fE (fD (fE iU))) ?_;exact iI ⟨a2,_,by rw[YG W,O];exact a5,by rw[YG W,O];rfl⟩
 ·intro _ _ _ Z hY;have N:=Z _ _ N;rw[bG]at hY;obtain⟨a9,g,hg,rfl⟩:=hY;rw[bJ]at hg;rw[show(cO (Ke.cut s skip)).take (cO (Ke.cut s skip)).length=cO (Ke.cut s skip) from bJ];refine yU 3 ?_;refine Cj.b4N rfl (fun a6=>?_);refine Cj.perm (H':=gH _ _ _++[_,_]) b5e ?_;refine Cj.RU (hg.base (fun p hp=>a6 p (.tail _ (.tail _ (List.mem_append_left _ hp))))) (fun _ _ hv=>?_);refine zX (a6W ((cO (Ke.cut s skip)).map dH) _ (by rw[bG];omega) oM _ hv) ?_;refine yU 4 ?_;refine Ej.b8c (.inl rfl) ?_;refine ZI.mark 0 rfl fU ?_;refine ZI.keep (bM _) ?_;exact ZI.ZO rfl rfl rT
 exact fun _ _ _ _ _ hZ=>hZ.elim
end Go.Proofs.YtekmeaoblpfnpaaGreatDoor
end
section
namespace Go.Proofs.YtekmeaoblpfnpaaGreatDoor
open _root_.Go.Proofs.Tryz
open Go Go.Sx
theorem a9X r (h:jA r=true):fB r=true:=by
 unfold jA at h;unfold fB;simp at h ⊢;omega
theorem b1x r I:∃b,Pure aG 268 [.int .i32 r] I (.bool b)∧(b=true→fB r=true):=
 ⟨_,dK (Enters.of func268 dE rfl) fun w _=>Tryz.utf8_ValidRune r w,a9X r⟩
theorem a3m l c I:Pure aG 217 [str l,u8 c] I (i64 (bD l c)):=
 dK (Enters.of func217 dE rfl) fun w _=>by
  have h:=Tryz.strings_IndexByte ⟨l.toArray⟩ c.toNat w;have e:((c.toNat:Int)).toNat.toUInt8=c:=sI;rw[NW,e]at h;exact h
theorem indexByte_none{l c}(h:∀d∈l,d.toNat<128)(Z:128≤c.toNat):bD l c= -1:=by
 induction l with
 |nil=>rfl
 |cons d l N=>
  have hd:=h d (.head _);have O:(d == c)=false:=by rw[beq_eq_false_iff_ne];intro e;subst e;omega
  rw[bD,O,N fun x W=>h x (.tail _ W)];rfl
theorem c0Y{r}(W:fB r=true)(O:128≤r):2≤(aN r).data.toList.length∧(aN r).data.toList.length≤4∧∃c,(aN r).data.toList[(aN r).data.toList.length-1]?=some c∧128≤c.toNat:=by
 obtain⟨h1,h2,h3⟩:=encode_facts r W O;have Z:(aN r).data.toList.length=(aN r).size:=rfl;rw[Z];have N:(aN r).size-1<(aN r).size:=oM;exact⟨h1,h2,_,Lib.data_getElem? (aN r) _ N,h3 N⟩
theorem a2L{l:List UInt8}{i c}(h:l[i]?=some c)(Z:c.toNat<128):aI ⟨l.toArray⟩ i=(c.toNat,1):=by
 obtain⟨N,hg⟩:=aA.1 h;have O:i<(⟨l.toArray⟩:ByteArray).size:=by rw[size_mk];exact N
 have W:(⟨l.toArray⟩:ByteArray)[i]'O=c:=by simp[ByteArray.getElem_eq_getElem_data,hg]
 rw[decode_ascii _ _ O (by rw[W];exact Z),W]
theorem a6R N (W:∀c∈N,c.toNat<128)(h4:4≤N.length)(af:N.length≤1000000) r (aa:128≤r)(hr:r≤2147483647) I:Pure aG 239 [str N,.int .i32 r] I (i64 (-1)):=by
 refine fA ?_;obtain⟨_,a1⟩:=b1x r I;refine zQ func239 fun w0 _=>?_;refine yU 11 ?_;refine J.opG 2 163 true _ rfl rfl rfl (zH oM) (AY qq2 rfl rfl ?_);refine J.opG 2 163 true _ rfl rfl rfl (zH oM) (AY (a6J rfl rfl rfl) rfl rfl ?_);refine bI (a4T rfl rfl (zH oM) rfl) ?_;refine yU 3 ?_;refine iE rfl (fun a2=>bC (gG (iF (zI oM)) a2)) (fun a2=>?_);refine zK ?_ ?_<;>intro a3 ab
 ·refine yU 4 ?_;refine bP rfl (a2r rfl rfl rfl rfl BQ ?_);intro b3 _;refine yU 3 ?_;refine bV (ι:=Nat) (fun i=>True) (fun i=>N.length-i) (fun i=>[(0,str N),(1,.int .i32 r),(174,str N),(175,ptr b3 0)]) (fun i=>I) (fun i=>[(b3,.stringIter ⟨N.toArray⟩ i)]) 0 trivial rT rfl rfl ?_;rintro i -;rcases bQ i N.length with hp|hp
  ·obtain⟨c,O⟩:∃c,N[i]?=some c:=⟨_,BM hp⟩;have a4:=a2L O (W c (CX O));refine yU 2 ?_;refine bP rfl (a3R 0 rfl rfl rfl rfl rfl (by rw[size_mk];omega) fU ?_);refine yU 22 ?_;refine iE rfl (fun a7=>bC (gG (iF (beq_eq_false_iff_ne.2 (by rw[a4];dsimp only;have:=W c (CX O);omega))) a7)) (fun a7=>?_);refine yU 2 ?_;refine bK (i+(aI ⟨N.toArray⟩ i).2) trivial (by rw[a4];dsimp only;omega) rT rfl rfl

  refine yU 2 ?_;refine bP rfl (YB 0 rfl rfl rfl rfl rfl (by rw[size_mk];omega) ?_);refine AB ?_;exact rT
 refine zX (a1.1) ?_;refine DI ?_ ?_<;>intro a8
 ·refine zV ?_;exact rT
 have ad:fB r=true:=a1.2 (by simpa using a8);obtain⟨_,_,c2,Z,a3⟩:=c0Y ad aa;obtain⟨c1,a0⟩:∃c,N[(aN r).data.toList.length-1]?=some c:=⟨_,BM oM⟩;have a2:=W c1 (CX a0);have ae:(c1.toNat:Int)≠c2.toNat:=oM;have ac:∀d∈(N.take N.length).drop ((aN r).data.toList.length-1+1),d.toNat<128:=fun d hd=>W d (gI (List.mem_of_mem_drop hd));refine Cj.scope ?_;refine yU 28 ?_;refine bV (ι:=Unit) (fun i=>True) (fun i=>0) (fun i=>[(0,str N),(7,str (aN r).data.toList),(8,i64 ((aN r).data.toList.length-1:Int)),(9,i64 ((aN r).data.toList.length-1:Int))]) (fun i=>I) (fun i=>[]) () trivial rT rfl rfl ?_;rintro _ -;refine yU 9 ?_;refine iE rfl (fun a9=>?_) (fun a9=>bC (gG (iF (zH oM)) a9));refine yU 3 ?_;refine Cj.scope ?_;refine yU 2 ?_;refine dV [] [] 7 kR ?_;refine yU 2 ?_;refine dW 2 rfl (CB rfl rfl rfl BQ oM (by rw[show((((aN r).data.toList.length:Int)-1).toNat)=(aN r).data.toList.length-1 by omega];exact a0)) ?_;refine yU 2 ?_;refine dW 5 rfl (CB rfl rfl rfl BQ oM (by rw[show((((aN r).data.toList.length:Int)-1).toNat)=(aN r).data.toList.length-1 by omega];exact Z)) ?_;refine yU 3 ?_;refine iE rfl (fun a5=>?_) (fun a5=>bC (gG (iF (bne_iff_ne.2 ae)) a5));refine yU 1 ?_;refine dV [] [] 9 kR ?_;refine yU 3 ?_;refine fK 36 (i64 ((aN r).data.toList.length-1+1:Nat)) rfl (by congr 1;omega) ?_;refine dW 3 rfl (CP (p:=(aN r).data.toList.length-1+1) (q:=N.length) rfl rfl BQ ⟨_,rfl⟩ rfl oM oM) ?_;refine yU 2 ?_;refine dW 6 rfl (CB rfl rfl rfl BQ oM (by rw[show((((aN r).data.toList.length:Int)-1).toNat)=(aN r).data.toList.length-1 by omega];exact Z)) ?_;refine zX (a3m _ _ _) ?_;refine yU 1 ?_;refine fK 41 (i64 (-1)) rfl (by rw[indexByte_none ac a3]) ?_;refine yU 10 ?_;refine iE rfl (fun a6=>?_) (fun a6=>bC (gG (iF (zH oM)) a6));refine yU 8 ?_;refine Ej.c2p ?_;refine yU 4 ?_;refine Ej.c2p ?_;refine zV ?_;exact rT
theorem a4j N (Z:∀c∈N,c.toNat<128)(h4:4≤N.length)(O:N.length≤1000000) r (W:128≤r)(hr:r≤2147483647) I:Pure aG 195 [str N,.int .i32 r] I (.bool false):=by
 refine zQ func195 fun w0 _=>?_;refine zX (a6R N Z h4 O r W hr _) ?_;refine zV ?_;exact rT
def b0t:List UInt8:=[48,49,50,51,52,53,54,55,56,57,88,120,32,45]
theorem c1Q c:decide (0≤bD b0t c)=aS c:=by
 have h:∀n<256,decide (0≤bD b0t (aK n))=aS (aK n):=by decide +kernel
 have:=h c.toNat c.toNat_lt
 rwa [dM]at this
def okr (r:Nat):Bool:=decide (r<128) && aS (aK r)
theorem a6U(r:Nat)(O:r≤1114111) I:Pure aG 195 [str b0t,.int .i32 (r:Int)] I (.bool (okr r)):=by
 rcases bQ r 128 with h|h
 ·refine dK (Enters.of func195 dE rfl) fun w _=>?_;have h1:=Tryz.strings_ContainsRune_ascii ⟨b0t.toArray⟩ (r:Int) w oM oM;have e:((r:Int)).toNat.toUInt8=aK r:=rfl;rw[NW,e,c1Q]at h1;have N:okr r=aS (aK r):=by simp[okr,h]
  rw[N];exact h1
 have N:okr r=false:=by simp[okr];omega
 rw[N];exact a4j b0t dE dE dE (r:Int) oM oM I
theorem b9J(r:Nat)(N:r≤1114111) I:Pure aG 194 [.int .i32 (r:Int)] I (.bool (!okr r)):=by
 refine zQ func194 fun w0 _=>?_;refine zX (a6U r N _) ?_;refine zV ?_;exact rT
theorem c4r{l:List UInt8}{i c}(h:l[i]?=some c)(N:128≤c.toNat):128≤(aI ⟨l.toArray⟩ i).1:=by
 have h1:Lib.decodeL (l.drop i)=aI ⟨l.toArray⟩ i:=Lib.decodeL_drop ⟨l.toArray⟩ i;rw[←h1,drop_cons h,Lib.decodeL_N];simp only[List.getD_cons_zero];unfold Lib.decodeN;rw[zD oM]
 split
 ·split
  ·assumption
  decide
 split
 ·split
  ·rename_i h2;exact FD dE h2.1
  decide
 split
 ·split
  ·rename_i h2;exact FD dE h2.1
  decide
 decide
theorem b3v{l:List UInt8}{i c}(h:l[i]?=some c)(N:okr (aI ⟨l.toArray⟩ i).1=true):aS c=true∧(aI ⟨l.toArray⟩ i).2=1:=by
 rcases bQ c.toNat 128 with O|O
 ·rw[a2L h O]at N ⊢;simp only[okr,dQ,dM]at N;exact⟨N.2,rfl⟩
 have:=c4r h O;simp only[okr,dQ,zG]at N;omega
theorem c1e{l:List UInt8}{i c}(h:l[i]?=some c)(O:okr (aI ⟨l.toArray⟩ i).1=false):aS c=false:=by
 rcases bQ c.toNat 128 with N|N
 ·rw[a2L h N]at O;simpa[okr,N]using O
 have h1:∀n<256,128≤n→aS (aK n)=false:=by decide +kernel
 have:=h1 c.toNat c.toNat_lt N
 rwa [dM]at this
theorem a1L{l:List UInt8}{i c}(h:(l.take i).all aS=true)(W:l[i]?=some c)(N:aS c=true):(l.take (i+1)).all aS=true:=by
 obtain⟨O,Z⟩:=aA.1 W;rw[aH O,Z,iP,h];simp[N]
theorem a6y{l:List UInt8}:∀{i:Nat} {c:UInt8},(l.take i).all aS=true→l[i]?=some c→aS c=false→l.takeWhile aS=l.take i:=by
 induction l with
 |nil=>intro i c _ h;simp at h
 |cons a r W=>
  intro i c h O N;cases i with
  |zero=>simp at O;subst O;rw[List.takeWhile_cons_of_neg (by simp[N])];rfl
  |succ i=>
   simp only[gW,jB,dQ]at h;rw[eX h.1,W h.2 (by simpa using O) N,gW]
theorem a0X{l:List UInt8}(h:l.all aS=true):l.takeWhile aS=l:=by
 induction l with
 |nil=>rfl
 |cons a r N=>
  rw[jB,dQ]at h;rw[eX h.1,N h.2]
def b8A (s:List UInt8) (n:Int):Prop:=(n= -1∧s.takeWhile aS=s)∨∃k:Nat,n=k∧k≤s.length∧s.takeWhile aS=s.take k
theorem b0u s I:yY aG 238 [str s,.func (.func 194) #[] #[],.bool true] I [] (fun e I' H'=>∃n,e= .returned (i64 n)∧b8A s n∧H'=[]):=by
 refine zQ func238 fun w0 _=>?_;refine yU 9 ?_;refine bP rfl (a2r rfl rfl rfl rfl BQ ?_);intro b1 _;refine yU 3 ?_;refine bV (ι:=Nat) (fun i=>i≤s.length∧(s.take i).all aS=true) (fun i=>s.length-i) (fun i=>[(1,.func (.func 194) #[] #[]),(2,.bool true),(10,ptr b1 0)]) (fun i=>I) (fun i=>[(b1,.stringIter ⟨s.toArray⟩ i)]) 0 ⟨aU _,rfl⟩ rT rfl rfl ?_;rintro i ⟨hi,O⟩;rcases bQ i s.length with hp|hp
 ·have hd:=fO s hp;have a0:=Ke.decode_le s i;obtain⟨c,N⟩:∃c,s[i]?=some c:=⟨_,BM hp⟩;refine yU 2 ?_;refine bP rfl (a3R 0 rfl rfl rfl rfl rfl (by rw[size_mk];omega) fU ?_);refine zX (b9J _ a0 _) ?_;refine DI ?_ ?_<;>intro Z
  ·have W:okr (aI ⟨s.toArray⟩ i).1=false:=by have h:=Z;simpa using h
   refine AB ?_;exact⟨_,rfl,.inr ⟨i,rfl,hi,a6y O N (c1e N W)⟩,rfl⟩
  have W:okr (aI ⟨s.toArray⟩ i).1=true:=by have h:=Z;simpa using h
  refine yU 2 ?_;refine bK (i+(aI ⟨s.toArray⟩ i).2) ⟨hd.2,by rw[(b3v N W).2];exact a1L O N (b3v N W).1⟩ oM rT rfl rfl

 refine yU 2 ?_;refine bP rfl (YB 0 rfl rfl rfl rfl rfl (by rw[size_mk];omega) ?_);refine AB ?_;exact⟨_,rfl,.inl ⟨rfl,a0X (by rw[aQ oM]at O;exact O)⟩,rfl⟩
theorem a9U s I:yY aG 193 [str s,.func (.func 194) #[] #[]] I [] (fun e W H'=>∃n,e= .returned (i64 n)∧b8A s n∧H'=[]):=by
 refine zQ func193 fun w0 _=>?_;refine AP (b0u s _) ?_;intro _ _ _ _ N;obtain⟨n,h,O,rfl⟩:=N;cases h;refine zV ?_;exact⟨_,rfl,O,rfl⟩
end Go.Proofs.YtekmeaoblpfnpaaGreatDoor
end
section
namespace Go.Proofs.YtekmeaoblpfnpaaGreatDoor
open _root_.Go.Proofs.Tryz
open Go Go.Sx
theorem b8m{l sp}{k:Nat}{c}(h:l[k]?=some c):(EF l++sp)[k]?=some (u8 c):=by
 obtain⟨N,_⟩:=aA.1 h;rw[List.getElem?_append_left (by rw[QD];exact N),EF,dN,h];rfl
theorem w8{x}(h:0≤x∧x≤255):jL.wrap x=x:=by
 simp[jG,jH,iV];omega
theorem a7c:∀(l:List UInt8) (k:Nat),dF k l≤1000*l.length
 |[],_=>by simp[dF]
 |c::r,k=>by
  have h1:=a7c r (k+1);have h2:=c.toNat_lt;have h3:(c.toNat-48)*(1+2*(k % 2))≤255*3:=eH oM oM;simp only[dF,aO];omega
theorem a3i{l:List UInt8}{k c}(h:l[k]?=some c):dF 0 (l.take (k+1))=dF 0 (l.take k)+(c.toNat-48)*(1+2*(k % 2)):=by
 obtain⟨N,O⟩:=aA.1 h;rw[aH N,O,Ke.b1Q,dF,dF,aY,dJ oM,gZ,Nat.add_zero]
theorem b2w c:dG c≤255:=by
 have h2:=c.toNat_lt;unfold dG;split<;>omega
theorem a7e:∀(l:List UInt8) (k:Nat),dI k l≤2550*l.length
 |[],_=>by simp[dI]
 |c::r,k=>by
  have h1:=a7e r (k+1);have h3:(10-k)*dG c≤10*255:=eH oM (b2w c);simp only[dI,aO];omega
theorem WV{l:List UInt8}{k c}(h:l[k]?=some c):dI 0 (l.take (k+1))=dI 0 (l.take k)+(10-k)*dG c:=by
 obtain⟨N,O⟩:=aA.1 h;rw[aH N,O,Ke.a9Q,dI,dI,aY,dJ oM,gZ,Nat.add_zero]
theorem a8j{l}{k:Nat}{c}(N:aX l=true)(h:l[k]?=some c):48≤c.toNat∧c.toNat≤57:=dY.1 (aZ.1 N c (CX h))
theorem b1F s (a4:12≤s.length)(hs:s.length≤1000000)(hd:aX (s.take 12)=true) I:Pure aG 200 [str s] I (u8 (bT s)):=by
 refine fA ?_;have a5:(s.take 12).length=12:=by rw[aY];omega
 refine zQ func200 fun w0 _=>?_;refine yU 14 ?_;refine bI (CP (p:=0) (q:=12) rfl rfl BQ rfl ⟨_,rfl⟩ oM oM) ?_;refine aT 7 (str (s.take 12)) rfl (by rw[dB]) ?_;refine bP rfl (QH rfl rfl rfl rfl BQ IJ UZ ?_);intro b1 c2 a0 W _ _;refine yU 5 ?_;refine bV (ι:=Nat) (fun j=>j≤(s.take 12).length) (fun j=>(s.take 12).length-j) (fun j=>[(0,str s),(3,i64 ((dF 0 ((s.take 12).take j):Nat):Int)),(8,.slice (some ⟨b1,0,none⟩) (s.take 12).length c2),(9,i64 ((s.take 12).length:Int)),(10,i64 (j:Int))]) (fun j=>I) (fun j=>[(b1,.cells (EF (s.take 12)++a0).toArray 5 (W,W+1))]) 0 (aU _) rT rfl rfl ?_;intro j hj;have a1:=a7c ((s.take 12).take j) 0;rw[aY,dJ hj]at a1;refine zK ?_ ?_<;>intro a2 Z
 ·have a3:j<(s.take 12).length:=oM;obtain⟨c,N⟩:∃c,(s.take 12)[j]?=some c:=⟨_,BM a3⟩;have hc:=a8j hd N;have hm:(c.toNat-48)*(1+2*(j % 2))≤9*3:=eH oM oM;refine zW j ?_;refine bI (DU tA5 (yZ.at 0 rfl) (b8m N)) ?_;refine yU 7 ?_;refine bI (RI rfl rfl rfl (w8 oM)) ?_;refine yU 1 ?_;refine aT 18 (i64 ((c.toNat-48:Nat):Int)) rfl (zC i64 ((IU oM).trans oM)) ?_;refine yU 2 ?_;refine aT 20 (i64 ((j % 2:Nat):Int)) rfl rfl ?_;refine yU 2 ?_;refine aT 22 (i64 ((1+2*(j % 2):Nat):Int)) rfl (zC i64 oM) ?_;refine bI (WR rfl rfl rfl (IU (by rw[←bY];omega))) ?_;refine aT 23 (i64 (((c.toNat-48)*(1+2*(j % 2)):Nat):Int)) rfl (zC i64 (bY _ _).symm) ?_;refine yU 9 ?_;refine bK (j+1) oM oM ⟨rfl,by rw[a3i N];exact zC (fun z=>some (bF .i64 z)) oM,rfl,rfl,rfl,trivial⟩ rfl rfl
 have O:(s.take 12).take j=s.take 12:=aQ oM;refine yU 9 ?_;refine aT 27 (i64 ((dF 0 (s.take 12) % 10:Nat):Int)) rfl (by rw[O];rfl) ?_;refine yU 1 ?_;refine aT 28 (i64 ((10-dF 0 (s.take 12) % 10:Nat):Int)) rfl (zC i64 oM) ?_;refine yU 1 ?_;refine aT 29 (i64 (((10-dF 0 (s.take 12) % 10) % 10:Nat):Int)) rfl rfl ?_;refine yU 1 ?_;refine aT 30 (i64 ((48+(10-dF 0 (s.take 12) % 10) % 10:Nat):Int)) rfl (zC i64 oM) ?_;refine yU 1 ?_;refine aT 31 (u8 (bT s)) rfl (zC (bF .u8) (a0A oM)) ?_;refine yU 4 ?_;refine bW (bM _) ?_;refine zV ?_;exact rT
theorem a9A s (a8:s.length=10)(hx:∀c∈s,cZ c=true∨c=88) I:Pure aG 199 [str s] I (.bool (bU s)):=by
 refine fA ?_;refine zQ func199 fun w0 _=>?_;refine yU 14 ?_;refine bP rfl (QH rfl rfl rfl rfl BQ IJ UZ ?_);intro b1 c2 a3 a0 _ _;refine yU 5 ?_;refine bV (ι:=Nat) (fun j=>j≤s.length) (fun j=>s.length-j) (fun j=>[(0,str s),(3,i64 ((dI 0 (s.take j):Nat):Int)),(8,.slice (some ⟨b1,0,none⟩) s.length c2),(9,i64 (s.length:Int)),(10,i64 (j:Int))]) (fun j=>I) (fun j=>[(b1,.cells (EF s++a3).toArray 5 (a0,a0+1))]) 0 (aU _) rT rfl rfl ?_;intro j hj;have a4:=a7e (s.take j) 0;rw[aY,dJ hj]at a4;refine zK ?_ ?_<;>intro a5 a1
 ·have a6:j<s.length:=oM;obtain⟨c,N⟩:∃c,s[j]?=some c:=⟨_,BM a6⟩;have hc:48≤c.toNat:=(hx c (CX N)).elim (fun h=>(dY.1 h).1) (fun h=>by subst h;decide);have a9:=c.toNat_lt;have hm:(10-j)*dG c≤10*255:=eH oM (b2w c);refine zW j ?_;refine bI (DU tA5 (yZ.at 0 rfl) (b8m N)) ?_;refine yU 7 ?_;refine bI (RI rfl rfl rfl (w8 oM)) ?_;refine yU 1 ?_;refine aT 17 (i64 ((c.toNat-48:Nat):Int)) rfl (zC i64 ((IU oM).trans oM)) ?_;refine zK ?_ ?_<;>intro O a2
  ·have a7:dG c=10:=by
    have h:(c.toNat:Int)=88:=CO O;unfold dG;rw[zF (dZ.1 (by rw[show(88:UInt8).toNat=88 from rfl];omega))]
   refine yU 8 ?_;refine aT 22 (i64 ((10-j:Nat):Int)) rfl (zC i64 oM) ?_;refine yU 1 ?_;refine aT 23 (i64 ((dG c:Nat):Int)) rfl (zC i64 oM) ?_;refine bI (WR rfl rfl rfl (IU (by rw[←bY];omega))) ?_;refine aT 24 (i64 (((10-j)*dG c:Nat):Int)) rfl (zC i64 (bY _ _).symm) ?_;refine yU 9 ?_;refine bK (j+1) oM oM ⟨rfl,by rw[WV N];exact zC (fun z=>some (bF .i64 z)) oM,rfl,rfl,rfl,trivial⟩ rfl rfl
  have a7:dG c=c.toNat-48:=by
   have h:¬(c.toNat:Int)=88:=CW O;unfold dG;rw[zD (fun e=>h (by subst e;rfl))]
  refine yU 6 ?_;refine aT 22 (i64 ((10-j:Nat):Int)) rfl (zC i64 oM) ?_;refine yU 1 ?_;refine aT 23 (i64 ((dG c:Nat):Int)) rfl (zC i64 oM) ?_;refine bI (WR rfl rfl rfl (IU (by rw[←bY];omega))) ?_;refine aT 24 (i64 (((10-j)*dG c:Nat):Int)) rfl (zC i64 (bY _ _).symm) ?_;refine yU 9 ?_;refine bK (j+1) oM oM ⟨rfl,by rw[WV N];exact zC (fun z=>some (bF .i64 z)) oM,rfl,rfl,rfl,trivial⟩ rfl rfl
 have Z:s.take j=s:=aQ oM;refine yU 9 ?_;refine aT 28 (i64 ((dI 0 s % 11:Nat):Int)) rfl (by rw[Z];rfl) ?_;refine FM ?_ ?_<;>intro W
 ·have hr:(dI 0 s % 11 == 0)=true:=beq_iff_eq.2 (by have h:=CO W;omega);refine yU 1 ?_;refine J.zg (CP (p:=0) (q:=9) rfl rfl BQ rfl ⟨_,rfl⟩ oM oM) ?_;refine aT 32 (str (s.take 9)) rfl (by rw[dB]) ?_;refine zX (a0T (s.take 9) (by rw[aY];omega) _) ?_;refine yU 5 ?_;refine bW (bM _) ?_;refine zV ?_;exact⟨zC (fun b=>fQ (.bool b)) (by unfold bU;rw[hr];rfl),rfl⟩
 have hr:(dI 0 s % 11 == 0)=false:=beq_eq_false_iff_ne.2 (fun e=>CW W (by rw[e];rfl));refine yU 8 ?_;refine bW (bM _) ?_;refine zV ?_;exact⟨zC (fun b=>fQ (.bool b)) (by unfold bU;rw[hr];rfl),rfl⟩
theorem b5f s:∀c∈aF s,cZ c=true∨c=88:=fun c N=>by
 obtain⟨d,O,rfl⟩:=List.mem_map.1 N;obtain⟨h1,h2⟩:=iQ.1 O;have h3:aS d=true:=aZ.1 (iC (p:=aS)) d h1;revert h2 h3;exact Ke.a1G (p:=fun d=>Ke.nb d=true→aS d=true→cZ (Ke.up d)=true∨Ke.up d=88) (by decide +kernel) d
theorem c1z s:(aF s).length≤s.length:=by
 unfold aF;rw[bG];exact FD (dR _ _) (dS _).length_le
theorem b5R s (Z:s.length≤1000000000) I:Pure aG 196 [str (iD (s.takeWhile aS))] I (str (aF s)):=by
 refine gJ (Enters.of func196 dE rfl) fun w _=>?_;have N:∀c∈iD (s.takeWhile aS),c.toNat<128∧Lib.upperB c=Ke.up c:=fun c O=>by
  obtain⟨h1,h2⟩:=iQ.1 O;have h3:aS c=true:=aZ.1 (iC (p:=aS)) c h1;revert h3;exact Ke.a1G (p:=fun c=>aS c=true→c.toNat<128∧Lib.upperB c=Ke.up c) (by decide +kernel) c
 have hl:(iD (s.takeWhile aS)).length≤s.length:=FD (dR _ _) (dS _).length_le;have h:=Tryz.strings_ToUpper_ascii ⟨(iD (s.takeWhile aS)).toArray⟩ w (by rw[size_mk];omega) (fun j b W=>by rw[NW]at W;exact(N b (CX W)).1);rw[NW]at h;have e:Lib.toUpperA (iD (s.takeWhile aS))=aF s:=gU fun c O=>(N c O).2;rw[e]at h;exact h
theorem b6G{a b}(h:a.length=12):bT (a++b)=bT a:=by
 unfold bT;rw[eF oM]
theorem a9b{a b}(h:aX a=true)(N:a.length=9):aX (([57,55,56]++a++b).take 12)=true:=by
 rw[eF (by simp;omega),aQ (by simp;omega),Ke.a2m,h];rfl
theorem b4G s (hs:s.length≤100000000) I:Pure aG 137 [str s] I (.tuple #[str (eP s).1,.bool (eP s).2]):=by
 refine fA ?_;have am:=b5f s;have au:=c1z s;have av:(s.takeWhile aS).length≤s.length:=(dS _).length_le;refine zQ func137 fun w0 _=>?_;refine AP (a9U s _) ?_;intro _ _ _ _ an;obtain⟨n,h,hn,rfl⟩:=an;cases h;refine yU 3 ?_;refine Cj.join (ι:=Heap) (fun J4=>True) (fun J4=>[(0,str (s.takeWhile aS))]) (fun J4=>J4) (fun J4=>[]) ?_ (fun N=>?_)
 ·rintro J4 -;refine yU 3 ?_;intro b6 _;refine J.pull iO ?_;refine AP (a1c _ _ _ _ b6 _ _) ?_;intro _ _ _ _ ag;obtain⟨rb,ao,h,rfl,ho⟩:=ag;cases h;refine yU 1 ?_;refine J.pull iO ?_;refine AP (b3c rb ao (s.takeWhile aS) oM _ ho) ?_;intro _ _ _ a8 ah;have ho:=ho.mono a8;obtain⟨h,rfl⟩:=ah;cases h;refine aT 15 (str (iD (s.takeWhile aS))) rfl rfl ?_;refine zX (b5R s oM _) ?_;refine yU 3 ?_;refine Cj.join (ι:=Heap) (fun J8=>¬((aF s).length=10∧bU (aF s)=true)∧¬((aF s).length=13∧aX (aF s)=true∧bT (aF s)=(aF s).getD 12 0)) (fun J8=>[(0,str (aF s))]) (fun J8=>J8) (fun J8=>[]) ?_ (fun N=>?_)
  ·rintro J8 ⟨W,O⟩;refine yU 7 ?_;refine bW (bM _) ?_;refine zV ?_;have he:eP s=([],false):=by unfold eP jI;rw[zD W,zD O]
   rw[he];exact rT
  refine yU 1 ?_;refine Cj.join (ι:=Bool×Heap) (fun y=>(y.1=true→(aF s).length=10∧bU (aF s)=true)∧(y.1=false→¬((aF s).length=10∧bU (aF s)=true))) (fun y=>[(0,str (aF s)),(17,.bool y.1)]) (fun y=>y.2) (fun y=>[]) ?_ (fun N=>?_)
  ·rintro⟨y,_⟩ ⟨ab,ac⟩;dsimp only at ab ac ⊢;refine DI ?_ ?_<;>intro a0
   ·obtain⟨a5,ad⟩:=ab a0;have ap:aX ((aF s).take 9)=true:=(Bool.and_eq_true_iff.1 ad).2;have ai:=a9b (b:=[48]) ap (by rw[aY];omega);refine yU 3 ?_;refine bI (CP (p:=0) (q:=9) rfl rfl BQ rfl ⟨_,rfl⟩ oM oM) ?_;refine aT 26 (str ((aF s).take 9)) rfl (by rw[dB]) ?_;refine bI (AZ rfl rfl rfl (by first|omega|(simp only[aC];omega)|(simp;omega))) ?_;refine yU 7 ?_;refine bI (AZ rfl rfl rfl (by first|omega|(simp only[aC];omega)|(simp;omega))) ?_;refine zX (b1F _ (by simp;omega) (by simp;omega) ai _) ?_;refine aT 31 (u8 (bT ([57,55,56]++(aF s).take 9))) rfl (by rw[b6G (by simp;omega)]) ?_;refine yU 1 ?_;intro _ _;refine bI (JD [bT ([57,55,56]++(aF s).take 9)] rfl rfl rfl IJ BQ UZ (yZ.at 0 rfl) rfl) ?_;refine bI (AZ rfl rfl rfl (by first|omega|(simp only[aC];omega)|(simp;omega))) ?_;refine yU 7 ?_;refine bW (bM _) ?_;refine zV ?_;have he:eP s=([57,55,56]++(aF s).take 9++[bT ([57,55,56]++(aF s).take 9)],true):=by unfold eP jI;rw[zF ⟨a5,ad⟩]
    rw[he];exact rT
   have W:=ac a0;refine yU 1 ?_;refine dV [] [] 15 kR ?_;refine yU 4 ?_;refine JA.split 39 rfl (fun a1=>?_) (fun a1=>?_)
   rotate_left
   ·have O:¬((aF s).length=13∧aX (aF s)=true∧bT (aF s)=(aF s).getD 12 0):=fun e=>CW a1 (by rw[e.1];rfl);refine yU 16 ?_;exact N _ _ _ _ ⟨W,O⟩ rT rfl rfl
   have aq:(aF s).length=13:=by have h:=CO a1;omega
   refine zX (a0T (aF s) oM _) ?_;refine yU 3 ?_;refine JA.split 43 rfl (fun Z=>?_) (fun Z=>?_)
   rotate_left
   ·have O:¬((aF s).length=13∧aX (aF s)=true∧bT (aF s)=(aF s).getD 12 0):=fun e=>bC (e.2.1.symm.trans Z);refine yU 12 ?_;exact N _ _ _ _ ⟨W,O⟩ rT rfl rfl
   have ae:aX (aF s)=true:=Z;have aj:aX ((aF s).take 12)=true:=aZ.2 fun c hc=>aZ.1 ae c (gI hc);obtain⟨c,a6⟩:∃c,(aF s)[12]?=some c:=⟨_,BM oM⟩;have af:(aF s).getD 12 0=c:=by rw[List.getD,a6];rfl
   refine yU 2 ?_;refine JA.fix AO (fun al=>?_);refine JA.tkG 11 7 43 true _ rfl al rfl rfl Z (CB rfl rfl rfl BQ oM a6) ?_;refine zX (b1F (aF s) oM oM aj _) ?_;refine zK ?_ ?_<;>intro a2 a9
   ·have ar:bT (aF s)=(aF s).getD 12 0:=by have h:=CO a2;rw[af];exact dZ.1 oM
    refine yU 10 ?_;refine bW (bM _) ?_;refine zV ?_;have he:eP s=(aF s,true):=by unfold eP jI;rw[zD W,zF ⟨aq,ae,ar⟩]
    rw[he];exact rT
   ·have O:¬((aF s).length=13∧aX (aF s)=true∧bT (aF s)=(aF s).getD 12 0):=fun e=>CW a2 (by rw[e.2.2,af]);refine yU 2 ?_;exact N _ _ _ _ ⟨W,O⟩ rT rfl rfl
  refine FM ?_ ?_<;>intro a3
  ·have a5:(aF s).length=10:=by have h:=CO a3;omega
   refine zX (a9A (aF s) a5 am _) ?_;refine yU 3 ?_;exact N (bU (aF s),_) _ _ _ ⟨fun h=>⟨a5,h⟩,fun h e=>bC (e.2.symm.trans h)⟩ rT rfl rfl
  have W:¬((aF s).length=10∧bU (aF s)=true):=fun e=>CW a3 (by rw[e.1];rfl);refine yU 5 ?_;exact N (false,_) _ _ _ ⟨fun h=>(by cases h),fun _=>W⟩ ⟨rfl,by first|rfl|exact zC (fun b=>some (Value.bool b)) (by assumption),trivial⟩ rfl rfl
 refine zK ?_ ?_<;>intro a4 aa
 ·obtain⟨k,rfl,_,a7⟩:∃k:Nat,n=k∧k≤s.length∧s.takeWhile aS=s.take k:=hn.elim (fun h=>absurd (ED a4) (by rw[h.1];decide)) id;refine yU 3 ?_;refine bI (CP (p:=0) (q:=k) rfl rfl BQ rfl ⟨_,rfl⟩ oM oM) ?_;refine aT 11 (str (s.takeWhile aS)) rfl (by rw[a7,dB]) ?_;refine yU 2 ?_;exact N _ _ _ _ trivial rT rfl rfl
 have a7:s.takeWhile aS=s:=hn.elim (fun h=>h.2) (fun⟨k,h,_⟩=>absurd (FQ a4) (by rw[h];simp));refine yU 1 ?_;exact N _ _ _ _ trivial ⟨(zC (fun l=>some (str l)) a7.symm),trivial⟩ rfl rfl
end Go.Proofs.YtekmeaoblpfnpaaGreatDoor
end
namespace Ke
abbrev Row:=List Bs
def pg (s:Bs):Bool→Row→Row
 |true,[]=>[]
 |false,[]=>[s]
 |d,x::r=>if s<x∧d=false then s::x::pg s true r else x::pg s d r
def put (l:Row) (s:Bs):Row:=if s∈l then l else pg s false l
def Inc (l:Row):Prop:=l.Pairwise (· <·)
theorem YO s:∀l,pg s true l=l
 |[]=>rfl
 |x::r=>by unfold pg;rw[zD sI,YO s r]
theorem b2m s:∀(l:Row) (x:Bs),x∈pg s false l↔x=s∨x∈l
 |[],x=>by simp[pg]
 |y::r,x=>by
  unfold pg
  by_cases h:s<y
  ·rw[zF ⟨h,rfl⟩,YO];simp
  rw[zD (fun e=>h e.1),bH,b2m s r x,bH];constructor
  ·rintro(h|h|h)<;>simp[h]
  rintro(h|h|h)<;>simp[h]
theorem c5Y{a b:Bs}(h:¬b<a)(N:a≠b):a<b:=by grind
theorem b7J s:∀{l:Row},Inc l→s ∉ l→Inc (pg s false l)
 |[],_,_=>by simp[pg,Inc]
 |y::r,hl,hn=>by
  have O:=bZ.1 hl;unfold pg
  by_cases h:s<y
  ·rw[zF ⟨h,rfl⟩,YO];refine bZ.2 ⟨fun z N=>?_,hl⟩;rcases bH.1 N with rfl|N
   ·exact h
   exact jC h (O.1 z N)
  rw[zD (fun e=>h e.1)];refine bZ.2 ⟨fun z N=>?_,b7J s O.2 fun e=>hn (.tail _ e)⟩;rcases(b2m s r z).1 N with rfl|N
  ·exact c5Y h fun e=>hn (e▸ .head _)
  exact O.1 z N
theorem put_mem l s x:x∈put l s↔x=s∨x∈l:=by grind [put,b2m]
theorem b4g{l} s (h:Inc l):Inc (put l s):=by grind [put,b7J]
theorem a5d:∀(xs:Row) {l:Row},Inc l→Inc (xs.foldl put l)
 |[],_,h=>h
 |x::r,_,h=>a5d r (b4g x h)
theorem b2p:∀(xs l:Row) (x:Bs),x∈xs.foldl put l↔x∈xs∨x∈l
 |[],_,_=>sI
 |y::r,l,x=>by
  rw[List.foldl_cons,b2p r,put_mem,bH];constructor
  ·rintro(h|h|h)<;>simp[h]
  rintro((h|h)|h)<;>simp[h]
theorem a5N:∀{a b:Row},Inc a→Inc b→(∀x,x∈a↔x∈b)→a=b
 |[],[],_,_,_=>rfl
 |[],y::_,_,_,h=>absurd ((h y).2 (.head _)) sI
 |x::_,[],_,_,h=>absurd ((h x).1 (.head _)) sI
 |x::r,y::t,ha,hb,h=>by
  have N:=bZ.1 ha;have O:=bZ.1 hb;have a0:x=y:=by
   rcases bH.1 ((h x).1 (.head _))with e|e
   ·exact e
   rcases bH.1 ((h y).2 (.head _))with Z|Z
   ·exact Z.symm
   exact absurd (jC (O.1 x e) (N.1 y Z)) (gB _)
  subst a0;rw[a5N N.2 O.2 fun z=>⟨fun W=>?_,fun W=>?_⟩]
  ·rcases bH.1 ((h z).1 (.tail _ W))with rfl|e
   ·exact absurd (N.1 z W) (gB _)
   exact e
  rcases bH.1 ((h z).2 (.tail _ W))with rfl|e
  ·exact absurd (O.1 z W) (gB _)
  exact e
structure Sub where
  code:UInt8
  text:Bs
structure LV where
  tag:Bs
  ind:Bs
  data:Bs
  sv:Go.Value
  subs:List Sub
def texts (f : LV) (codes : Bs) : Row := (f.subs.filter fun s => codes.contains s.code).map (·.text)
def textOf (f:LV) (codes:Bs):Bs:=join (texts f codes)
def skip (f:LV):Nat:=match f.ind[1]? with
 |some c=>if digit c then c.toNat-48 else 0
 |none=>0
end Ke
namespace Go.Proofs.YtekmeaoblpfnpaaGreatDoor
open Go Go.Sx
def MQ (s:Ke.Sub):List Value:=[u8 s.code,str s.text]
def FZ (f:Ke.LV):List Value:=[str f.tag,str f.ind,str f.data,f.sv]
theorem JW s:(MQ s).length=2:=rfl
theorem a2l f:(FZ f).length=4:=rfl
def QX (I:Heap) (fs:List Ke.LV) (v:Value):Prop:=zS FZ I fs v∧∀f∈fs,zS MQ I f.subs f.sv
theorem QX.mono{I O fs v}(h:QX I fs v)(N:Le I O):QX O fs v:=⟨h.1.mono N,fun f W=>(h.2 f W).mono N⟩
def a7w (k l:UInt8) (v:Value):Value:= .agg #[u8 k,u8 l,v]
def CZ (ss:List Ke.Sub):Nat:=(ss.map (·.text.length)).sum
theorem a1m{base sz n xs ys g}(h:BL base sz n xs g)(N:ys.length=xs.length):BL base sz n ys g:=by
 cases g with
 |none=>
  obtain⟨h1,h2⟩:=h;exact⟨h1,dL.1 (by rw[N,h2];rfl)⟩
 |some q=>
  obtain⟨b,c,sp⟩:=q;obtain⟨h1,h2,h3⟩:=h;exact⟨h1,by rw[N];exact h2,by rw[N];exact h3⟩
theorem b9z{f p n c}(h:f.sv= .slice p n c):(FZ f).all Value.oneCell'=true:=by
 unfold FZ;rw[h];rfl
def tx (codes:List UInt8) (ss:List Ke.Sub):List (List UInt8):=(ss.filter fun s=>codes.contains s.code).map (·.text)
theorem c3B{codes}{ss:List Ke.Sub}{k s}(h:ss[k]?=some s):tx codes (ss.take (k+1))=tx codes (ss.take k)++(if codes.contains s.code then[s.text]else[]):=by
 obtain⟨N,O⟩:=aA.1 h;unfold tx;rw[aH N,O,List.filter_append,dX]
 by_cases hc:codes.contains s.code=true
 ·rw[zF hc,List.filter_cons_of_pos (p:=fun s:Ke.Sub=>codes.contains s.code) hc];rfl
 rw[zD hc,List.filter_cons_of_neg (p:=fun s:Ke.Sub=>codes.contains s.code) hc];rfl
theorem b0n codes ss:(tx codes ss).length≤ss.length:=by
 unfold tx;rw[bG];exact dR _ _
theorem RX:∀l:List (List UInt8),(aV l).length≤(l.map eU).sum+l.length
 |[]=>by simp[aV]
 |[a]=>by simp[aV]
 |a::b::r=>by
  have:=RX (b::r);simp only[aV,aC,dP,gK,aO,aW]at this ⊢;omega
theorem b8R codes:∀ss:List Ke.Sub,((tx codes ss).map eU).sum≤CZ ss
 |[]=>by simp[tx]
 |s::r=>by
  have:=b8R codes r;unfold tx CZ at this ⊢;rw[List.filter_cons]
  split
  ·simp only[dP,gK];omega
  simp only[dP,gK];omega
theorem a1t f codes:(Ke.textOf f codes).length≤CZ f.subs+f.subs.length:=by
 have h1:=RX (tx codes f.subs);have h2:=b8R codes f.subs;have h3:=b0n codes f.subs;have:Ke.textOf f codes=aV (tx codes f.subs):=rfl;rw[this];omega
theorem a8m l c:decide (0≤bD l c)=l.contains c:=by
 induction l with
 |nil=>rfl
 |cons d r N=>
  rw[bD,List.contains_cons];simp only[beq_iff_eq]
  by_cases h:d=c
  ·subst h;simp
  rw[zD h,show(c == d)=false from beq_eq_false_iff_ne.2 (Ne.symm h),Bool.false_or,←N]
  by_cases h0:bD r c<0
  ·have:¬0≤bD r c:=oM;rw[zI this];exact zI (by split<;>omega)
  have:0≤bD r c:=oM;rw[zH this];exact zH (by split<;>omega)
theorem b4n{f}(h:¬1<f.ind.length):Ke.skip f=0:=by
 unfold Ke.skip;rw[List.getElem?_eq_none oM]
end Go.Proofs.YtekmeaoblpfnpaaGreatDoor
section
namespace Go.Proofs.YtekmeaoblpfnpaaGreatDoor
open _root_.Go.Proofs.Tryz
open Go Go.Sx
def EY (I:Heap) (l:List (List UInt8)) (v:Value):Prop:=∃p c,v= .slice p l.length c∧l.length≤c∧(l≠[]→∃b o cs t fr sp,p=some ⟨b,o,none⟩∧I b=some (.cells (List.toArray cs) t fr)∧cs.drop o=l.map str++sp)
theorem JV{cs sp:List Value}{o}{l:List (List UInt8)}(h:cs.drop o=l.map str++sp){k x}(N:l[k]?=some x):cs[o+k]?=some (str x):=by
 rw[←List.getElem?_drop,h];exact FT N
theorem EY.of{I l v}(h:IG 9 I l v):EY I l v:=by
 rcases h with⟨rfl,rfl⟩|⟨b,c,sp,rfl,N,O⟩
 ·exact⟨none,0,rfl,iJ _,fun h=>absurd rfl h⟩
 exact⟨_,c,rfl,N,fun _=>⟨b,0,_,_,_,sp,rfl,O,rfl⟩⟩
theorem EY.mono{I N l v}(h:EY I l v)(O:Le I N):EY N l v:=
 let ⟨p,c,h1,h2,h3⟩:=h;⟨p,c,h1,h2,fun W=>let ⟨b,o,cs,t,fr,sp,Z,h5,h6⟩:=h3 W;⟨b,o,cs,t,fr,sp,Z,O _ _ h5,h6⟩⟩
theorem take_same{α:Type}{a b:List α}{k x}(h:a.take k=b.take k)(h1:a[k]?=some x)(h2:b[k]?=some x):a.take (k+1)=b.take (k+1):=by
 obtain⟨N,O⟩:=aA.1 h1;obtain⟨W,Z⟩:=aA.1 h2;rw[aH N,aH W,h,O,Z]
theorem SG{l:List (List UInt8)}{k x}(h:l[k]?=some x):aV (l.take (k+1))=(if 0<k then aV (l.take k)++[32]else aV (l.take k))++x:=by
 have key:∀(a:List (List UInt8)) (x:List UInt8),aV (a++[x])=(if 0<a.length then aV a++[32]else aV a)++x:=by
  intro a x
  induction a with
  |nil=>rfl
  |cons b r O=>
   cases r with
   |nil=>simp[aV]
   |cons c t=>
    have h1:aV (b::c::t++[x])=b++[32]++aV (c::t++[x]):=rfl;rw[h1,O,zF sI,zF sI];simp[aV]
 obtain⟨N,W⟩:=aA.1 h;rw[aH N,W,key,aY,dJ oM]
theorem a0z l k:(aV (l.take k)).length≤(aV l).length:=by
 have key:∀a b:List (List UInt8),(aV a).length≤(aV (a++b)).length:=by
  intro a b
  induction a with
  |nil=>exact aU _
  |cons x r N=>
   cases r with
   |nil=>
    cases b with
    |nil=>exact iJ _
    |cons y t=>simp only[aV,fJ,List.nil_append,aC];omega
   |cons y t=>
    simp only[aV,fJ,aC]at N ⊢;omega
 have:=key (l.take k) (l.drop k)
 rwa [dU]at this
theorem b7e{s:List UInt8}{k c}(h:(s.take k).all cZ=true)(N:s[k]?=some c)(W:cZ c=true):(s.take (k+1)).all cZ=true:=by
 obtain⟨O,N⟩:=aA.1 N;rw[aH O,N,iP,h];simp[W]
theorem a7b{s}{k:Nat}{c}(N:s[k]?=some c)(O:¬cZ c=true):aX s=false:=by
 rcases h:aX s with _|_
 ·rfl
 exact absurd (aZ.1 h c (CX N)) O
theorem c2a{s:List UInt8}{k c d}(h:c ∉ s.take k)(N:s[k]?=some d)(W:d≠c):c ∉ s.take (k+1):=by
 obtain⟨O,N⟩:=aA.1 N;rw[aH O,N];simp only[List.mem_append,List.mem_singleton];rintro(e|e)
 ·exact h e
 exact W e.symm
theorem b2S{r}(h:r≠[]):aB (48::r)=aB r:=by
 cases r with
 |nil=>exact absurd rfl h
 |cons a t=>
  unfold aB;have h1:(48::a::t).length-1=(a::t).length-1+1:=rfl;rw[h1,eG];rfl
theorem PX{x}(h:x.length≤1∨∃c r,x=c::r∧c≠48):aB x=x:=by
 rcases h with h|⟨c,r,rfl,N⟩
 ·match x,h with
  |[],_=>rfl
  |[a],_=>rfl
 cases r with
 |nil=>rfl
 |cons a t=>
  have h1:(c::a::t).dropLast=c::(a::t).dropLast:=rfl;have h2:(c::a::t).length-1=(a::t).length-1+1:=rfl;unfold aB;rw[h1,List.dropWhile_cons_of_neg (by simpa using N),h2,eG,fJ]
  congr 1
  rw[fV,dU]
theorem c1X{l:List UInt8}{x:UInt8}(h:l[0]?=some x):l=x::l.tail:=by
 cases l with
 |nil=>simp at h
 |cons a r=>simp at h;subst h;rfl
theorem c4F a b va vb (af:a.length≤100000000000000) I (ha:EY I a va)(hb:EY I b vb):Pure aG 265 [va,vb] I (.bool (decide (a=b))):=by
 obtain⟨p,c,rfl,_,hp⟩:=ha;obtain⟨q,d,rfl,_,hq⟩:=hb;refine zQ func265 fun w0 _=>?_;refine zK ?_ ?_<;>intro O a3
 ·have a6:a.length≠b.length:=fun e=>(bne_iff_ne.1 O) (by rw[e]);refine zV ?_;have W:decide (a=b)=false:=zI (fun e=>a6 (by rw[e]));rw[W];exact rT
 have ae:a.length=b.length:=by have h:=O;simp at h;omega
 refine yU 9 ?_;refine bV (ι:=Nat) (fun j=>j≤a.length∧a.take j=b.take j) (fun j=>a.length-j) (fun j=>[(0,.slice p a.length c),(1,.slice q b.length d),(5,i64 (j:Int))]) (fun j=>I) (fun j=>[]) 0 ⟨aU _,rfl⟩ rT rfl rfl ?_;rintro j ⟨_,Z⟩;refine zK ?_ ?_<;>intro a7 a4
 ·have a2:j<a.length:=oM;obtain⟨x,a0⟩:∃x,a[j]?=some x:=⟨_,BM a2⟩;obtain⟨y,N⟩:∃y,b[j]?=some y:=⟨_,BM oM⟩;obtain⟨_,ao,_,_,_,_,rfl,a8,a9⟩:=hp (zU a2);obtain⟨_,bo,EF,_,_,_,rfl,aa,ab⟩:=hq (zU (k:=j) oM);refine yU 5 ?_;refine dV [] [] 9 kR ?_;refine zW (ao+j) ?_;refine dW 3 rfl (DU CU (yZ.OA a8) (JV a9 a0)) ?_;refine zW (bo+j) ?_;refine dW 7 rfl (DU CU (yZ.OA aa) (JV ab N)) ?_;refine zK ?_ ?_<;>intro a1 a5
  ·have ac:x≠y:=bne_iff_ne.1 a1;refine zV ?_;have W:decide (a=b)=false:=zI (fun e=>by subst e;rw[a0]at N;exact ac (Option.some.inj N));rw[W];exact rT
  have ad:y=x:=by have h:=a1;simp at h;exact h.symm
  refine yU 8 ?_;refine bK (j+1) ⟨oM,take_same Z a0 (ad▸N)⟩ oM rT rfl rfl
 refine zV ?_;have W:decide (a=b)=true:=zH (by rw[aQ oM,aQ oM]at Z;exact Z);rw[W];exact rT
theorem a4O l v (hl:l.length≤100000000000000)(hs:(aV l).length≤1000000000000) I (hv:EY I l v):Pure aG 72 [v] I (str (aV l)):=by
 obtain⟨p,c,rfl,_,hp⟩:=hv;refine zQ func72 fun w0 _=>?_;refine yU 17 ?_;refine bV (ι:=Nat) (fun j=>j≤l.length) (fun j=>l.length-j) (fun j=>[(0,.slice p l.length c),(3,str (aV (l.take j))),(4,i64 (j:Int))]) (fun j=>I) (fun j=>[]) 0 (aU _) rT rfl rfl ?_;intro j _;have a8:=a0z l j;have a7:=a0z l (j+1);refine zK ?_ ?_<;>intro a6 a4
 ·have a1:j<l.length:=oM;obtain⟨x,W⟩:∃x,l[j]?=some x:=⟨_,BM a1⟩;obtain⟨lb,lo,_,_,_,sp,rfl,a2,a3⟩:=hp (zU a1);have N:=zC eU (SG W);rw[aC]at N;refine zK ?_ ?_<;>intro Z a5
  ·have O:0<j:=by have h:=ED Z;omega
   refine yU 2 ?_;refine bI (AZ rfl rfl rfl (by rw[zF O,aC]at N;simp only[aO,aW]at N ⊢;omega)) ?_;refine zW (lo+j) ?_;refine bI (DU CU (yZ.LK a2) (JV a3 W)) ?_;refine bI (AZ rfl rfl rfl (by first|(rw[zF O,aC]at N;simp only[aC,aO,aW]at N ⊢;omega)|(rw[zD O]at N;omega))) ?_;refine yU 9 ?_;refine bK (j+1) oM oM ⟨rfl,by rw[SG W,zF O];rfl,rfl,trivial⟩ rfl rfl
  have O:¬0<j:=by have h:=FQ Z;omega
  refine zW (lo+j) ?_;refine bI (DU CU (yZ.LK a2) (JV a3 W)) ?_;refine bI (AZ rfl rfl rfl (by first|(rw[zF O,aC]at N;simp only[aC,aO,aW]at N ⊢;omega)|(rw[zD O]at N;omega))) ?_;refine yU 9 ?_;refine bK (j+1) oM oM ⟨rfl,by rw[SG W,zD O];rfl,rfl,trivial⟩ rfl rfl
 have a0:l.take j=l:=aQ oM;refine zV ?_;rw[a0];exact rT
theorem a5G s (hs:s.length≤1000000000000) I:Pure aG 70 [str s] I (.bool (aX s)):=by
 refine zQ func70 fun w0 _=>?_;refine yU 12 ?_;refine bV (ι:=Nat) (fun j=>j≤s.length∧(s.take j).all cZ=true) (fun j=>s.length-j) (fun j=>[(0,str s),(3,i64 (j:Int))]) (fun j=>I) (fun j=>[]) 0 ⟨aU _,rfl⟩ rT rfl rfl ?_;rintro j ⟨_,O⟩;refine zK ?_ ?_<;>intro a3 a1
 ·have a4:j<s.length:=oM;obtain⟨c,N⟩:∃c,s[j]?=some c:=⟨_,BM a4⟩;refine yU 8 ?_;refine bI (CB rfl rfl rfl BQ oM N) ?_;refine FM ?_ ?_<;>intro W
  ·have Z:¬cZ c=true:=fun e=>by have h1:=dY.1 e;have h:=ED W;omega
   refine zV ?_;rw[a7b N Z];exact rT
  have a5:=FQ W;refine yU 2 ?_;refine J.zg (CB rfl rfl rfl BQ oM N) ?_;refine zK ?_ ?_<;>intro a0 a2
  ·have Z:¬cZ c=true:=fun e=>by have h1:=dY.1 e;have h:=ED a0;omega
   refine zV ?_;rw[a7b N Z];exact rT
  have hd:cZ c=true:=dY.2 (by have h:=FQ a0;omega);refine yU 8 ?_;refine bK (j+1) ⟨oM,b7e O N hd⟩ oM rT rfl rfl
 refine zV ?_;have he:aX s=true:=by rw[aQ oM]at O;exact O
 rw[he];exact rT
theorem c5p s d (hs:s.length≤1000000000000) I:Pure aG 180 [str s,u8 d] I (.bool (s.contains d)):=by
 refine zQ func180 fun w0 _=>?_;refine yU 12 ?_;refine bV (ι:=Nat) (fun j=>j≤s.length∧d ∉ s.take j) (fun j=>s.length-j) (fun j=>[(0,str s),(1,u8 d),(5,i64 (j:Int))]) (fun j=>I) (fun j=>[]) 0 ⟨aU _,sI⟩ rT rfl rfl ?_;rintro j ⟨_,O⟩;refine zK ?_ ?_<;>intro a1 Z
 ·have a2:j<s.length:=oM;obtain⟨c,N⟩:∃c,s[j]?=some c:=⟨_,BM a2⟩;refine yU 8 ?_;refine bI (CB rfl rfl rfl BQ oM N) ?_;refine zK ?_ ?_<;>intro W a0
  ·have he:c=d:=dZ.1 (by have h:=CO W;omega);refine zV ?_;have hx:s.contains d=true:=by simpa using he▸CX N
   rw[hx];exact rT
  have a3:c≠d:=fun e=>CW W (by rw[e]);refine yU 8 ?_;refine bK (j+1) ⟨oM,c2a O N a3⟩ oM rT rfl rfl
 refine zV ?_;have hx:s.contains d=false:=by rw[aQ oM]at O;simpa using O
 rw[hx];exact rT
theorem b8n s (hs:s.length≤1000000000000) I:Pure aG 71 [str s] I (str (iZ s)):=by
 refine zQ func71 fun w0 _=>?_;refine yU 7 ?_;refine bV (ι:=List UInt8) (fun x=>aB x=aB s∧x.length≤s.length) (fun x=>x.length) (fun x=>[(0,str x)]) (fun x=>I) (fun x=>[]) s ⟨rfl,iJ _⟩ rT rfl rfl ?_;rintro x ⟨O,_⟩;refine FM ?_ ?_<;>intro Z
 ·have a2:1<x.length:=by have h:=ED Z;omega
  obtain⟨c,a0⟩:∃c,x[0]?=some c:=⟨_,BM oM⟩;have W:x=c::x.tail:=c1X a0;have a4:x.tail≠[]:=fun e=>by rw[W,e]at a2;simp at a2
  refine yU 1 ?_;refine J.zg (CB rfl rfl rfl BQ oM a0) ?_;refine zK ?_ ?_<;>intro a1 a3
  ·have a5:x=48::x.tail:=by have h:=CO a1;rw[show c=48 from dZ.1 (by rw[show(48:UInt8).toNat=48 from rfl];omega)]at W;exact W
   refine yU 5 ?_;refine bI (CP (p:=1) (q:=x.length) rfl rfl BQ ⟨_,rfl⟩ rfl oM oM) ?_;refine aT 13 (str x.tail) rfl (by rw[bJ,List.drop_one]) ?_;refine yU 3 ?_;refine bK x.tail ⟨by rw[←O,a5,b2S a4];rfl,by rw[iL];omega⟩ (by rw[iL];omega) rT rfl rfl
  have N:x.length≤1∨∃c r,x=c::r∧c≠48:= .inr ⟨c,_,W,fun e=>CW a1 (by rw[e];rfl)⟩;have a6:(aB s).length=x.length:=by rw[←O,PX N]
  refine yU 8 ?_;refine aT 14 (str (aB s)) rfl (by rw[←O,PX N]) ?_;refine yU 1 ?_;refine bI (NT rfl rfl rfl) ?_;refine aT 16 (i64 ((min (aB s).length 99:Nat):Int)) rfl (zC i64 (by split<;>omega)) ?_;refine yU 6 ?_;refine bI (RG rfl rfl rfl dE (IU (by show _≤((min (aB s).length 99 / 10:Nat):Int)∧((min (aB s).length 99 / 10:Nat):Int)≤_;omega))) ?_;refine aT 18 (i64 ((min (aB s).length 99 / 10:Nat):Int)) rfl rfl ?_;refine yU 1 ?_;refine aT 19 (i64 ((48+min (aB s).length 99 / 10:Nat):Int)) rfl (zC i64 oM) ?_;refine yU 1 ?_;refine aT 20 (u8 (aK (48+min (aB s).length 99 / 10))) rfl (zC (bF .u8) (a0A oM)) ?_;refine yU 2 ?_;refine aT 22 (i64 ((min (aB s).length 99 % 10:Nat):Int)) rfl rfl ?_;refine yU 1 ?_;refine aT 23 (i64 ((48+min (aB s).length 99 % 10:Nat):Int)) rfl (zC i64 oM) ?_;refine yU 1 ?_;refine aT 24 (u8 (aK (48+min (aB s).length 99 % 10))) rfl (zC (bF .u8) (a0A oM)) ?_;refine yU 1 ?_;intro _ _;refine bI (JD [aK (48+min (aB s).length 99 / 10),aK (48+min (aB s).length 99 % 10)] rfl rfl rfl IJ BQ UZ (yZ.at 0 rfl) rfl) ?_;refine yU 1 ?_;refine aT 27 (str (aB s)) rfl (by rw[←O,PX N]) ?_;refine bI (AZ rfl rfl rfl (by first|omega|(simp only[aC];omega)|(simp;omega))) ?_;refine AB ?_;exact rT
 have N:x.length≤1∨∃c r,x=c::r∧c≠48:= .inl (by have h:=FQ Z;omega);have a6:(aB s).length=x.length:=by rw[←O,PX N]
 refine yU 15 ?_;refine aT 14 (str (aB s)) rfl (by rw[←O,PX N]) ?_;refine yU 1 ?_;refine bI (NT rfl rfl rfl) ?_;refine aT 16 (i64 ((min (aB s).length 99:Nat):Int)) rfl (zC i64 (by split<;>omega)) ?_;refine yU 6 ?_;refine bI (RG rfl rfl rfl dE (IU (by show _≤((min (aB s).length 99 / 10:Nat):Int)∧((min (aB s).length 99 / 10:Nat):Int)≤_;omega))) ?_;refine aT 18 (i64 ((min (aB s).length 99 / 10:Nat):Int)) rfl rfl ?_;refine yU 1 ?_;refine aT 19 (i64 ((48+min (aB s).length 99 / 10:Nat):Int)) rfl (zC i64 oM) ?_;refine yU 1 ?_;refine aT 20 (u8 (aK (48+min (aB s).length 99 / 10))) rfl (zC (bF .u8) (a0A oM)) ?_;refine yU 2 ?_;refine aT 22 (i64 ((min (aB s).length 99 % 10:Nat):Int)) rfl rfl ?_;refine yU 1 ?_;refine aT 23 (i64 ((48+min (aB s).length 99 % 10:Nat):Int)) rfl (zC i64 oM) ?_;refine yU 1 ?_;refine aT 24 (u8 (aK (48+min (aB s).length 99 % 10))) rfl (zC (bF .u8) (a0A oM)) ?_;refine yU 1 ?_;intro b5 _;refine bI (JD [aK (48+min (aB s).length 99 / 10),aK (48+min (aB s).length 99 % 10)] rfl rfl rfl IJ BQ UZ (yZ.at 0 rfl) rfl) ?_;refine yU 1 ?_;refine aT 27 (str (aB s)) rfl (by rw[←O,PX N]) ?_;refine bI (AZ rfl rfl rfl (by first|omega|(simp only[aC];omega)|(simp;omega))) ?_;refine AB ?_;exact rT
end Go.Proofs.YtekmeaoblpfnpaaGreatDoor
end
namespace Go.Sx
open Go
def a1y (a:Option Addr) (c j sz:Nat):Option Addr:=if c=j then a else a.map (·.add (j*sz))
section
variable {cx:Cx} {o:Oper} {e:Env} {S:World→Prop}
theorem a8i{x y z}{T E n c sz j k:Nat}{a kl Z O}(ho:o.op= .slice T x (some y) (some z) none)(hx:ev e x=some (.slice a n c))(hy:ev e y=some (.int kl (j:Int)))(hz:ev e z=some (.int Z O))(hu:cx.P.underlying T=some (.slice E))(W:∀w,(sizeOf E).run cx.P w= .ok sz w)(hk:O=(k:Int))(hj:j≤k)(hc:k≤c):
 BO cx o e S (.slice (a1y a c j sz) (k-j) (c-j)):=by
 intro w0 w N _;subst hk;have h1:(k:Int)≤c:=oM;have h2:(j:Int)≤k:=oM;unfold a1y;simp[execOp,ho,N.eval hx,N.eval hy,N.eval hz,jD,jK,run_underlying hu,iH,run_sliceBound,h1,h2,W]
theorem MI{x y}{T E n c sz j:Nat}{a kl N}(ho:o.op= .slice T x (some y) none none)(hx:ev e x=some (.slice a n c))(hy:ev e y=some (.int kl N))(hu:cx.P.underlying T=some (.slice E))(O:∀w,(sizeOf E).run cx.P w= .ok sz w)(W:N=(j:Int))(hj:j≤n)(hc:n≤c):
 BO cx o e S (.slice (a1y a c j sz) (n-j) (c-j)):=by
 intro w0 w Z _;subst W;have h1:(j:Int)≤n:=oM;unfold a1y;simp[execOp,ho,Z.eval hx,Z.eval hy,jD,jK,run_underlying hu,iH,run_sliceBound,h1,O]
theorem LJ{x z}{T E n c sz k:Nat}{a W N}(Z:o.op= .slice T x none (some z) none)(hx:ev e x=some (.slice a n c))(hz:ev e z=some (.int W N))(hu:cx.P.underlying T=some (.slice E))(O:∀w,(sizeOf E).run cx.P w= .ok sz w)(hk:N=(k:Int))(hc:k≤c):
 BO cx o e S (.slice a k c):=by
 subst hk;exact a1w Z hx hz hu O hc
end
theorem a9o{α:Type}{f sz}(N:∀x,(f x).length=sz):∀(l:List α) (j:Nat) (sp:List Value),j≤l.length→(l.flatMap f++sp).drop (j*sz)=(l.drop j).flatMap f++sp
 |l,0,sp,_=>sI
 |[],j+1,sp,h=>by simp at h
 |a::r,j+1,sp,h=>by
  rw[List.flatMap_cons,eY,show(j+1)*sz=(f a).length+j*sz by rw[N,Nat.add_mul];omega,←iW,List.drop_left,eG];exact a9o N r j sp (by simpa using h)
theorem zS.cut{α:Type}{f:α→List Value}{sz:Nat}(O:∀x,(f x).length=sz){I l a n c}(h:zS f I l (.slice a n c)){j k:Nat}(hj:j≤k)(hk:k≤l.length):zS f I ((l.drop j).take (k-j)) (.slice (a1y a c j sz) (k-j) (c-j)):=by
 obtain⟨_,_,W,_,Z⟩:=h;cases W;refine⟨_,c-j,by rw[aY,fH];congr 1;omega,by rw[aY,fH];omega,fun N=>?_⟩;have a0:j<k:=by
  rcases bQ j k with g|g
  ·exact g
  exact absurd (by rw[show k-j=0 by omega,List.take_zero]) N
 have hl:l≠[]:=fun e=>N (by rw[e];simp);obtain⟨b,o,cs,t,fr,sp,h1,h2,h3⟩:=Z hl;subst h1;refine⟨b,o+j*sz,cs,t,fr,((l.drop j).drop (k-j)).flatMap f++sp,?_,h2,?_⟩
 ·unfold a1y;rw[zD oM,Option.map_some,Addr.add_lit]
 rw[←iW,h3,a9o O l j sp oM,←eY,←List.flatMap_append,dU]
