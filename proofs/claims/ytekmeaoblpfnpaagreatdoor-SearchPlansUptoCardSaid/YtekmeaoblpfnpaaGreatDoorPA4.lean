/-
  Own texts on the laws of the seat, joined: the logic, and contracts of functions. Conditions: none.
-/
import Derived.Test.YtekmeaoblpfnpaaGreatDoorNmA
import Derived.Test.YtekmeaoblpfnpaaGreatDoorPA3
import Derived.Lib.TrimUEq
import Derived.Lib.TrimAscii
import Derived.Lib.MapLaws
import Derived.Shelf.Strings.Builder1
import Derived.Shelf.Strings.Builder2
import Derived.Shelf.Strings.OnBuilder
import Derived.Shelf.Strings.Trim
import Derived.Shelf.Small.Utf8
import Derived.Shelf.Small.Bits
import Derived.Shelf.Small.Strs
import Derived.Shelf.Small.Wraps
import Derived.Shelf.Strings.BuilderF
import Derived.Shelf.Strings.BuilderK
import Derived.Shelf.Strings.BuilderRune
import Derived.Shelf.Utf8.AppendRune
import Derived.Shelf.Utf8.AppendRunePlain
import Derived.Shelf.Utf8.RuneCount
import Derived.Shelf.Strings.Builder2Cap
import Derived.Shelf.Strconv.Itoa0
import Derived.Shelf.Strings.Search1
import Derived.Shelf.Strings.Search2
import Derived.Shelf.Strings.Search3
import Derived.Shelf.Strings.Cut
import Derived.Shelf.Strings.Count
import Derived.Shelf.LaysM
import Derived.Shelf.Strings.Shaped
import Derived.Shelf.GgClosure.StringsIndexFunc
import Derived.Ground.GgwProg
import Derived.Shelf.GgClosure.StringsIndexFuncTop
import Derived.Shelf.Strings.Prefix
import Derived.Shelf.Strings.Split
import Derived.Shelf.Strings.Fields
import Derived.Shelf.Strings.SplitShaped
import Derived.Shelf.Unicode.Latin
import Derived.Shelf.Unicode.Decode
import Derived.Shelf.Strings.Runes
import Derived.Shelf.Strings.RuneCount
import Derived.Shelf.Strings.AsciiSet
import Derived.Shelf.Unicode.DecodeSlow
import Derived.Shelf.Unicode.DecodeAny
import Derived.Shelf.Unicode.Is16White
import Derived.Shelf.Unicode.IsSpaceAny
import Derived.Shelf.Unicode.DecodeLast
import Derived.Shelf.Unicode.Is16WhiteD
import Derived.Shelf.Unicode.IsSpaceAnyD
import Derived.Shelf.Strings.FieldsAny
import Derived.Shelf.Strings.FieldsFuncAny
import Derived.Shelf.Unicode.CaseLookup
import Derived.Shelf.Unicode.CaseConvert
import Derived.Shelf.Unicode.CaseTo
import Derived.Shelf.Unicode.CaseLaid
import Derived.Shelf.Strings.MapAny
import Derived.Shelf.Strings.CaseAny
import Derived.Shelf.Unicode.Is16Any
import Derived.Shelf.Unicode.Is32Any
import Derived.Shelf.Unicode.ExclAny
import Derived.Shelf.Strings.FuncGrows
import Derived.Shelf.Strings.FieldsFuncGrows
import Derived.Shelf.Strings.BuilderCap
import Derived.Shelf.Strings.MapGrows
import Derived.Shelf.Slices.Turned
import Derived.Shelf.Slices.Equal
import Derived.Ground.Names2Prog
import Derived.Shelf.Slices.SearchI
import Derived.Shelf.Slices.Empties2
import Derived.Lib.Bytealg
set_option linter.all false
set_option maxRecDepth 100000
set_option maxHeartbeats 40000000
open Go.Proofs.Tryz renaming prog -> aA,zeroCells364 -> dM
open UInt8 renaming ofNat -> aB,toNat_inj -> dY
open Go.Shelf renaming Ren -> aC
open Bool renaming noConfusion -> aF,false_eq_true -> dJ,and_eq_true -> dR
open List renaming length_cons -> aG,take_of_length_le -> aI,map_cons -> aJ,cons_append -> aS,mem_cons -> aU,length_append -> aX,length_eq_zero_iff -> bD,count_le_length -> bH,sum_cons -> bQ,getElem?_eq_some_iff -> bT,map_append -> bV,append_nil -> bW,drop_eq_nil_of_le -> bZ,replicate -> cZ,take_append_drop -> dA,append_assoc -> dL,length_drop -> dQ,countP_cons -> dS,length_take -> dU,lookup_cons -> dV,drop_zero -> eG
open Go.Utf8 renaming decode -> aH,encode -> cO,valid -> dF
open Go.Sx.AU renaming s -> aK,z -> dB
open Go.Sx.J renaming z -> aN,op -> bK,pull -> bP
open Go.Sx.Pull renaming s -> aO,z -> aY
open Go.Value renaming int -> aP,bool -> bI,oneCell' -> eF,string -> eU
open Go.Lib renaming decodeL_width -> aQ,indexByte -> aV,goFieldsP -> aW,fieldsD -> bF,decodeL_drop -> bJ,decodeL_rune -> dG
open Eq renaming trans -> aT,symm -> bC
open Go.Sx.Cj renaming cond -> aZ
open Go.Sx.yZ renaming LK -> bG
open Nat renaming zero_le -> bM,le_refl -> dN,mul_one -> dP,min_eq_left -> dX
open Go.Sx.Ej renaming round -> bU,rounds -> dH,persist -> dZ
open Go.Sx.Enters renaming of -> bY
open Go.Sx.Rj renaming succ -> dD
open Go.Sx renaming str -> dI
open Go.Sx.Keeps renaming d -> dK
open Go.Sx.JA renaming zt -> dW
open Go.Sx.Src renaming slice -> eH
open Go.Proofs.Builder renaming Extra -> eP
open Go.Proofs.Lays renaming n158 -> eX,n156 -> eY,n161 -> fA,n160 -> fB,n119 -> fC,n106 -> fD,n137 -> fE,n122 -> fF,n219 -> fG,n138 -> fH,n157 -> fJ,n151 -> fK,n229 -> fM,n110 -> fO
namespace Ke
open Go.Lib (decodeL decodeN)
abbrev Bs:=List UInt8
def PL:Nat→Bs→List Nat
 |0,_=>[]
 |_+1,[]=>[]
 |f+1,c::r=>(decodeL (c::r)).1::PL f ((c::r).drop (decodeL (c::r)).2)
def runes (s:Bs):List Nat:=PL s.length s
theorem a8T:∀(f g:Nat) (s:Bs),s.length≤f→s.length≤g→PL f s=PL g s
 |0,0,_,_,_=>rfl
 |0,g+1,s,h,_=>by
  have:s=[]:=bD.1 oM;subst this;rfl
 |f+1,0,s,_,h=>by
  have:s=[]:=bD.1 oM;subst this;rfl
 |f+1,g+1,[],_,_=>rfl
 |f+1,g+1,c::r,h1,h2=>by
  have N:=aQ (c::r);simp only[aG]at h1 h2;simp only[PL];rw[a8T f g _ (by simp;omega) (by simp;omega)]
theorem b7n:runes []=[]:=rfl
theorem UU{s}(h:s≠[]):runes s=(decodeL s).1::runes (s.drop (decodeL s).2):=by
 cases s with
 |nil=>exact absurd rfl h
 |cons c r=>
  have N:=aQ (c::r);show PL (r.length+1) (c::r)=_;simp only[PL];unfold runes;rw[a8T r.length _ _ (by simp;omega) (dN _)]
theorem ZJ{s:Bs}{i}(h:i<s.length):runes (s.drop i)=(aH ⟨s.toArray⟩ i).1::runes (s.drop (i+(aH ⟨s.toArray⟩ i).2)):=by
 have h1:=bJ ⟨s.toArray⟩ i;simp only at h1;rw[←h1,UU (by simp;omega),List.drop_drop]
theorem XG{s:Bs}{i}(h:s.length≤i):runes (s.drop i)=[]:=by rw[bZ h];rfl
theorem decode_le(s:Bs) i:(aH ⟨s.toArray⟩ i).1≤1114111:=by
 rw[←bJ ⟨s.toArray⟩ i];exact dG _
theorem PG(s:Bs){i}(h:i<s.length):1≤(aH ⟨s.toArray⟩ i).2∧i+(aH ⟨s.toArray⟩ i).2≤s.length:=by
 have h1:decodeL (s.drop i)=aH ⟨s.toArray⟩ i:=bJ ⟨s.toArray⟩ i;rw[←h1];refine⟨aQ _,?_⟩;have:=Go.Lib.decodeL_le (s.drop i) (by simp;omega);simp only[dQ]at this;omega
theorem b1V:∀(f:Nat) (s:Bs),∀c∈PL f s,c≤1114111
 |0,_,c,h=>by cases h
 |_+1,[],c,h=>by cases h
 |f+1,d::r,c,h=>by
  simp only[PL,aU]at h;rcases h with rfl|h
  ·exact dG _
  exact b1V f _ c h
theorem WY:∀(f:Nat) (s:Bs),(PL f s).length≤s.length
 |0,_=>bM _
 |_+1,[]=>dN _
 |f+1,d::r=>by
  have N:=aQ (d::r);have:=WY f ((d::r).drop (decodeL (d::r)).2);simp only[PL,aG];simp only[dQ,aG]at this;omega
def enc (c:Nat):Bs:=
 if c<128 then[aB c]else if c<2048 then[aB (192+c / 64),aB (128+c % 64)]
 else if c<65536 then[aB (224+c / 4096),aB (128+c / 64 % 64),aB (128+c % 64)]
 else[aB (240+c / 262144),aB (128+c / 4096 % 64),aB (128+c / 64 % 64),aB (128+c % 64)]
def PO (c:Nat):Prop:=c<55296∨(57344≤c∧c<65536)
theorem c1G{c}(h:PO c):dF (c:Int)=true:=by
 unfold PO at h;unfold dF;simp only[Bool.or_eq_true,dR,zG];omega
theorem b8f{c:Nat}(N:dF (c:Int)=true):(cO (c:Int)).data.toList=(if c<128 then(⟨#[aB c]⟩:ByteArray)else if c<2048 then⟨#[aB (192+c / 64),aB (128+c % 64)]⟩else if c<65536 then⟨#[aB (224+c / 4096),aB (128+c / 64 % 64),aB (128+c % 64)]⟩
 else⟨#[aB (240+c / 262144),aB (128+c / 4096 % 64),aB (128+c / 64 % 64),aB (128+c % 64)]⟩).data.toList:=by simp_all[cO,N,if_true,Int.toNat_natCast]
theorem KF{c}(h:PO c):(cO (c:Int)).data.toList=enc c:=by
 rw[b8f (c1G h)];unfold enc
 by_cases h1:c<128
 ·rw[zF h1,zF h1]
 rw[zD h1,zD h1]
 by_cases h2:c<2048
 ·rw[zF h2,zF h2]
 rw[zD h2,zD h2]
 by_cases h3:c<65536
 ·rw[zF h3,zF h3]
 rw[zD h3,zD h3]
def rows:List (Bs×Bs):=[
 ([97],[195,160,195,161,195,162,195,163,195,164,195,165,196,129,196,131,196,133,195,128,195,129,195,130,195,131,195,132,195,133,196,128,196,130,196,132]),
 ([99],[195,167,196,135,196,137,196,139,196,141,195,135,196,134,196,136,196,138,196,140]),
 ([100],[196,143,196,145,195,176,196,142,196,144,195,144]),
 ([101],[195,168,195,169,195,170,195,171,196,147,196,149,196,151,196,153,196,155,195,136,195,137,195,138,195,139,196,146,196,148,196,150,196,152,196,154]),
 ([103],[196,157,196,159,196,161,196,163,196,156,196,158,196,160,196,162]),
 ([104],[196,165,196,167,196,164,196,166]),
 ([105],[195,172,195,173,195,174,195,175,196,169,196,171,196,173,196,175,196,177,195,140,195,141,195,142,195,143,196,168,196,170,196,172,196,174,196,176]),
 ([106],[196,181,196,180]),
 ([107],[196,183,196,182]),
 ([108],[196,186,196,188,196,190,197,130,196,185,196,187,196,189,197,129]),
 ([110],[195,177,197,132,197,134,197,136,195,145,197,131,197,133,197,135]),
 ([111],[195,178,195,179,195,180,195,181,195,182,195,184,197,141,197,143,197,145,198,161,195,146,195,147,195,148,195,149,195,150,195,152,197,140,197,142,197,144,198,160]),
 ([114],[197,149,197,151,197,153,197,148,197,150,197,152]),
 ([115],[197,155,197,157,197,159,197,161,197,154,197,156,197,158,197,160]),
 ([116],[197,163,197,165,197,167,197,162,197,164,197,166]),
 ([117],[195,185,195,186,195,187,195,188,197,169,197,171,197,173,197,175,197,177,197,179,198,176,195,153,195,154,195,155,195,156,197,168,197,170,197,172,197,174,197,176,197,178,198,175]),
 ([119],[197,181,197,180]),
 ([121],[195,189,195,191,197,183,195,157,197,184,197,182]),
 ([122],[197,186,197,188,197,190,197,185,197,187,197,189]),
 ([97,101],[195,166,195,134]),
 ([111,101],[197,147,197,146]),
 ([115,115],[195,159]),
 ([116,104],[195,190,195,158]),
 ([206,177],[206,172,206,134]),
 ([206,181],[206,173,206,136]),
 ([206,183],[206,174,206,137]),
 ([206,185],[206,175,207,138,206,144,206,138,206,170]),
 ([206,191],[207,140,206,140]),
 ([207,133],[207,141,207,139,206,176,206,142,206,171]),
 ([207,137],[207,142,206,143]),
 ([208,181],[209,145,208,129])]
def tab:List (Nat×Bs):=[
 (224,[97]),(225,[97]),(226,[97]),(227,[97]),(228,[97]),(229,[97]),(257,[97]),(259,[97]),(261,[97]),(192,[97]),(193,[97]),(194,[97]),(195,[97]),(196,[97]),(197,[97]),(256,[97]),(258,[97]),(260,[97]),
 (231,[99]),(263,[99]),(265,[99]),(267,[99]),(269,[99]),(199,[99]),(262,[99]),(264,[99]),(266,[99]),(268,[99]),
 (271,[100]),(273,[100]),(240,[100]),(270,[100]),(272,[100]),(208,[100]),
 (232,[101]),(233,[101]),(234,[101]),(235,[101]),(275,[101]),(277,[101]),(279,[101]),(281,[101]),(283,[101]),(200,[101]),(201,[101]),(202,[101]),(203,[101]),(274,[101]),(276,[101]),(278,[101]),(280,[101]),(282,[101]),
 (285,[103]),(287,[103]),(289,[103]),(291,[103]),(284,[103]),(286,[103]),(288,[103]),(290,[103]),
 (293,[104]),(295,[104]),(292,[104]),(294,[104]),
 (236,[105]),(237,[105]),(238,[105]),(239,[105]),(297,[105]),(299,[105]),(301,[105]),(303,[105]),(305,[105]),(204,[105]),(205,[105]),(206,[105]),(207,[105]),(296,[105]),(298,[105]),(300,[105]),(302,[105]),(304,[105]),
 (309,[106]),(308,[106]),
 (311,[107]),(310,[107]),
 (314,[108]),(316,[108]),(318,[108]),(322,[108]),(313,[108]),(315,[108]),(317,[108]),(321,[108]),
 (241,[110]),(324,[110]),(326,[110]),(328,[110]),(209,[110]),(323,[110]),(325,[110]),(327,[110]),
 (242,[111]),(243,[111]),(244,[111]),(245,[111]),(246,[111]),(248,[111]),(333,[111]),(335,[111]),(337,[111]),(417,[111]),(210,[111]),(211,[111]),(212,[111]),(213,[111]),(214,[111]),(216,[111]),(332,[111]),(334,[111]),(336,[111]),(416,[111]),
 (341,[114]),(343,[114]),(345,[114]),(340,[114]),(342,[114]),(344,[114]),
 (347,[115]),(349,[115]),(351,[115]),(353,[115]),(346,[115]),(348,[115]),(350,[115]),(352,[115]),
 (355,[116]),(357,[116]),(359,[116]),(354,[116]),(356,[116]),(358,[116]),
 (249,[117]),(250,[117]),(251,[117]),(252,[117]),(361,[117]),(363,[117]),(365,[117]),(367,[117]),(369,[117]),(371,[117]),(432,[117]),(217,[117]),(218,[117]),(219,[117]),(220,[117]),(360,[117]),(362,[117]),(364,[117]),(366,[117]),(368,[117]),(370,[117]),(431,[117]),
 (373,[119]),(372,[119]),
 (253,[121]),(255,[121]),(375,[121]),(221,[121]),(376,[121]),(374,[121]),
 (378,[122]),(380,[122]),(382,[122]),(377,[122]),(379,[122]),(381,[122]),
 (230,[97,101]),(198,[97,101]),
 (339,[111,101]),(338,[111,101]),
 (223,[115,115]),
 (254,[116,104]),(222,[116,104]),
 (940,[206,177]),(902,[206,177]),
 (941,[206,181]),(904,[206,181]),
 (942,[206,183]),(905,[206,183]),
 (943,[206,185]),(970,[206,185]),(912,[206,185]),(906,[206,185]),(938,[206,185]),
 (972,[206,191]),(908,[206,191]),
 (973,[207,133]),(971,[207,133]),(944,[207,133]),(910,[207,133]),(939,[207,133]),
 (974,[207,137]),(911,[207,137]),
 (1105,[208,181]),(1025,[208,181])]
def char (c:Nat):Bs:=
 if (97≤c∧c≤122)∨(48≤c∧c≤57)then enc c
 else if 65≤c∧c≤90 then enc (c+32)
 else if c<128 then[32]
 else if (768≤c∧c≤879)∨(65056≤c∧c≤65071)then[]
 else match tab.lookup c with
  |some s=>s
  |none=>
   if c=962 then enc 963
   else if (945≤c∧c≤969)∨(1072≤c∧c≤1103)then enc c
   else if ((913≤c∧c≤937)∧c≠930)∨(1040≤c∧c≤1071)then enc (c+32)
   else[32]
def JO:List (Bs×Bs)→List (Nat×Bs)
 |[]=>[]
 |(a,b)::r=>(runes b).map (·,a)++JO r
theorem a5O:JO rows=tab:=kR
theorem a8R:(tab.map (·.1)).Nodup:=by decide +kernel
def wf (w:Bs):List Nat→List Bs
 |[]=>if w=[]then[]else[w]
 |c::r=>if char c=[32]then(if w=[]then wf [] r else w::wf [] r)else wf (w++char c) r
def words (s:Bs):List Bs:=wf [] (runes s)
def join:List Bs→Bs
 |[]=>[]
 |[a]=>a
 |a::b::r=>a++[32]++join (b::r)
theorem VP:∀(l:List Nat) (w:Bs),∀x∈wf w l,x≠[]
 |[],w,x,h=>by
  unfold wf at h
  split at h
  ·cases h
  simp at h;subst h;assumption
 |c::r,w,x,h=>by
  unfold wf at h
  split at h
  ·split at h
   ·exact VP r [] x h
   rcases aU.1 h with rfl|h
   ·assumption
   exact VP r [] x h
  exact VP r _ x h
def digit (c:UInt8):Bool:=48≤c && c≤57
def digits (s:Bs):Bool:=s.all digit
def strip (s:Bs):Bs:=(s.dropLast.dropWhile (· == 48))++s.drop (s.length-1)
def number (s:Bs):Bs:=
 let t:=strip s
 let n:=min t.length 99
 [aB (48+n / 10),aB (48+n % 10)]++t
def JE (w:Bs):Bs:=if digits w then number w else w
def cut (s:Bs) (skip:Int):Bs:=s.drop (min (max skip 0) s.length).toNat
def GI (s:Bs) (skip:Int):Bs:=join ((words (cut s skip)).map JE)
end Ke
namespace Ke
def okb (c:UInt8):Bool:=digit c || c == 88 || c == 120 || c == 32 || c == 45
def nb (c:UInt8):Bool:= !(c == 32 || c == 45)
def up (c : UInt8) : UInt8 := if c = 120 then 88 else c
def norm (s:Bs):Bs:=((s.takeWhile okb).filter nb).map up
def a2e:Nat→Bs→Nat
 |_,[]=>0
 |k,c::r=>(c.toNat-48)*(1+2*(k % 2))+a2e (k+1) r
def check (s:Bs):UInt8:=aB (48+(10-a2e 0 (s.take 12) % 10) % 10)
def val (c:UInt8):Nat:=if c=88 then 10 else c.toNat-48
def ZT:Nat→Bs→Nat
 |_,[]=>0
 |k,c::r=>(10-k)*val c+ZT (k+1) r
def MP (s:Bs):Bool:=ZT 0 s % 11 == 0 && digits (s.take 9)
def a2i (t:Bs):Bs×Bool:=
 if t.length=10∧MP t=true then([57,55,56]++t.take 9++[check ([57,55,56]++t.take 9)],true)
 else if t.length=13∧digits t=true∧check t=t.getD 12 0 then(t,true)
 else([],false)
def OT (s:Bs):Bs×Bool:=a2i (norm s)
theorem a1G{p:UInt8→Prop}(h:∀n<256,p (aB n)) c:p c:=by grind [c.toNat_lt,UInt8.ofNat_toNat]
theorem WZ{c}:digit c=true↔48≤c.toNat∧c.toNat≤57:=by
 simp[digit,UInt8.le_iff_toNat_le]
theorem digit_ok{c}(h:digit c=true):okb c=true∧nb c=true∧up c=c:=by
 revert h;exact a1G (p:=fun c=>digit c=true→okb c=true∧nb c=true∧up c=c) (by decide +kernel) c
theorem a4t{c r}:digits (c::r)=(digit c && digits r):=rfl
theorem a2m{a b}:digits (a++b)=(digits a && digits b):=by simp[digits,List.all_append]
theorem a9T:∀{s:Bs},(∀c∈s,up c=c)→s.map up=s
 |[],_=>rfl
 |c::r,h=>by rw[aJ,h c (.head _),a9T fun d N=>h d (.tail _ N)]
theorem b1Q:∀(a b:Bs) (k:Nat),a2e k (a++b)=a2e k a+a2e (k+a.length) b
 |[],b,k=>by simp[a2e]
 |c::r,b,k=>by
  simp only[aS,a2e,aG,b1Q r b (k+1)];rw[show k+1+r.length=k+(r.length+1) by omega];omega
theorem a9Q:∀(a b:Bs) (k:Nat),ZT k (a++b)=ZT k a+ZT (k+a.length) b
 |[],b,k=>by simp[ZT]
 |c::r,b,k=>by
  simp only[aS,ZT,aG,a9Q r b (k+1)];rw[show k+1+r.length=k+(r.length+1) by omega];omega
theorem b5Q{s}(h:digits s=true):s.map up=s:=a9T fun c N=>(digit_ok (List.all_eq_true.1 h c N)).2.2
end Ke
section
namespace Ke
def rep (s:Bs):Bs:=s.filter nb
theorem c6e c:nb c= !(c == 32 || c == 45):=rfl
end Ke
namespace Go.Sx
def buf (E:List UInt8) (n:Nat):List Value:=EF E++cZ (n-E.length) (.int .u8 0)
theorem c3d n:buf [] n=cZ n (.int .u8 0):=by simp[buf,EF]
theorem b3s{E n}(h:E.length≤n):(buf E n).length=n:=by simp[buf,EF];omega
theorem c3H{E X n}(h:E.length+X.length≤n):AL (buf E n) E.length (EF X) (buf (E++X) n):=by
 have N:(EF X).length=X.length:=QD X;have O:(EF E).length=E.length:=QD E;refine⟨by rw[b3s oM,N];exact h,?_⟩;unfold buf;rw[N,List.take_append_of_le_length oM,aI oM,List.drop_append,bZ oM,O];simp only[EF,bV,List.nil_append,dL,List.drop_replicate,aX]
 congr 2
 congr 1
 omega
theorem c3b{E n} c (h:E.length<n):(buf E n).set E.length (u8 c)=buf (E++[c]) n:=by
 have N:(EF E).length=E.length:=QD E;unfold buf;rw[List.set_append_right _ _ oM,N,Nat.sub_self];obtain⟨m,O⟩:∃m,n-E.length=m+1:=⟨n-E.length-1,oM⟩;have h2:n-(E++[c]).length=m:=by simp;omega
 rw[O,h2,List.replicate_succ,List.set_cons_zero];simp[EF]
theorem c1q{E n}(h:n=E.length):buf E n=EF E++[]:=by
 subst h;simp[buf]
end Go.Sx
end
namespace Go.Proofs
open _root_.Go.Proofs.Tryz
open Go.Shelf
def Tryz.a4C:aC:=⟨fun|158=>196|165=>240|166=>130|167=>241|169=>132|230=>242|203=>243|240=>184|241=>271|197=>272|118=>273|168=>274|270=>275|262=>276|276=>234|277=>299|260=>300|242=>301|313=>302|278=>316|274=>317|275=>318|n=>n,fun|9=>9|4=>4|3=>3|5=>5|72=>204|0=>0|76=>208|75=>207|107=>293|70=>202|20=>20|37=>192|127=>246|21=>21|105=>328|164=>284|162=>351|203=>349|119=>341|46=>188|139=>372|138=>371|51=>238|160=>373|208=>407|206=>405|80=>211|n=>n,fun|13=>2|3=>4|4=>5|n=>n⟩
theorem Tryz.c3i:eX aA Tryz.a4C:={
 mixed:=kR
 f118:=func273.trans (zC some kR)
 f158:=func196.trans (zC some kR)
 f165:=func240.trans (zC some kR)
 f166:=func130.trans (zC some kR)
 f167:=func241.trans (zC some kR)
 f168:=func274.trans (zC some kR)
 f169:=func132.trans (zC some kR)
 f197:=func272.trans (zC some kR)
 f203:=func243.trans (zC some kR)
 f230:=func242.trans (zC some kR)
 f240:=func184.trans (zC some kR)
 f241:=func271.trans (zC some kR)
 f242:=func301.trans (zC some kR)
 f260:=func300.trans (zC some kR)
 f262:=func276.trans (zC some kR)
 f270:=func275.trans (zC some kR)
 f274:=func317.trans (zC some kR)
 f275:=func318.trans (zC some kR)
 f276:=func234.trans (zC some kR)
 f277:=func299.trans (zC some kR)
 f278:=func316.trans (zC some kR)
 f313:=func302.trans (zC some kR)
 t0:=underlying0
 a0:=isAgg0
 z0:=sizeOf0
 v0:=zeroValue0
 t3:=underlying3
 a3:=isAgg3
 z3:=sizeOf3
 v3:=zeroValue3
 t4:=underlying4
 a4:=isAgg4
 z4:=sizeOf4
 v4:=zeroValue4
 t5:=underlying5
 a5:=isAgg5
 z5:=sizeOf5
 v5:=zeroValue5
 t9:=underlying9
 a9:=isAgg9
 z9:=sizeOf9
 v9:=zeroValue9
 t20:=underlying20
 a20:=isAgg20
 z20:=sizeOf20
 v20:=zeroValue20
 t21:=underlying21
 a21:=isAgg21
 z21:=sizeOf21
 v21:=zeroValue21
 t37:=underlying192
 a37:=isAgg192
 z37:=sizeOf192
 v37:=zeroValue192
 t46:=underlying188
 a46:=isAgg188
 z46:=sizeOf188
 v46:=zeroValue188
 t51:=underlying238
 a51:=isAgg238
 z51:=sizeOf238
 v51:=zeroValue238
 t70:=underlying202
 a70:=isAgg202
 z70:=sizeOf202
 v70:=zeroValue202
 t72:=underlying204
 a72:=isAgg204
 z72:=sizeOf204
 v72:=zeroValue204
 t75:=underlying207
 a75:=isAgg207
 z75:=sizeOf207
 v75:=zeroValue207
 t76:=underlying208
 a76:=isAgg208
 z76:=sizeOf208
 v76:=zeroValue208
 t105:=underlying328
 a105:=isAgg328
 z105:=sizeOf328
 v105:=zeroValue328
 t107:=underlying293
 a107:=isAgg293
 z107:=sizeOf293
 v107:=zeroValue293
 t119:=underlying341
 a119:=isAgg341
 z119:=sizeOf341
 t127:=underlying246
 a127:=isAgg246
 z127:=sizeOf246
 v127:=zeroValue246
 t138:=underlying371
 a138:=isAgg371
 z138:=sizeOf371
 v138:=zeroValue371
 t139:=underlying372
 a139:=isAgg372
 z139:=sizeOf372
 v139:=zeroValue372
 t160:=underlying373
 a160:=isAgg373
 z160:=sizeOf373
 v160:=zeroValue373
 t162:=underlying351
 a162:=isAgg351
 z162:=sizeOf351
 v162:=zeroValue351
 t164:=underlying284
 a164:=isAgg284
 z164:=sizeOf284
 v164:=zeroValue284
 t203:=underlying349
 a203:=isAgg349
 z203:=sizeOf349
 v203:=zeroValue349
 t206:=underlying405
 a206:=isAgg405
 z206:=sizeOf405
 v206:=zeroValue405
 t208:=underlying407
 a208:=isAgg407
 z208:=sizeOf407
 v208:=zeroValue407
 g3:=kR
 g4:=kR
 g13:=by kernel_rfl }
theorem Tryz.a4k:eP aA Tryz.a4C:={
 sizeBuilder:=kR
 liesBuilder:=kR
 t5:=underlying5
 a5:=isAgg5
 z5:=sizeOf5
 v5:=zeroValue5
 infoByte:=kR
 cellsByte:=kR
 sizeByte:=kR
 neB5:=by decide }
open Go.RowKit in
theorem Tryz.strings_ToUpper_ascii s w (O:s.size≤140737488355328)(N:∀(j:Nat) (b:UInt8),s.data.toList[j]?=some b→b.toNat<128):
 Calls aA 196 #[.string s] w fun e w'=>e= .returned (.string ⟨(Lib.toUpperA s.data.toList).toArray⟩)∧Below w.heap.size w w':=Any.strings_ToUpper_ascii Tryz.c3i Tryz.a4k s w O N
def Tryz.lays156_ren:aC:=⟨fun|156=>203|165=>240|166=>130|169=>132|240=>184|241=>271|276=>234|277=>299|n=>n,fun|31=>69|9=>9|3=>3|4=>4|0=>0|20=>20|72=>204|76=>208|70=>202|37=>192|75=>207|127=>246|164=>284|5=>5|80=>211|n=>n,fun|n=>n⟩
theorem Tryz.lays156:eY aA Tryz.lays156_ren:={
 mixed:=kR
 f156:=func203.trans (zC some kR)
 f165:=func240.trans (zC some kR)
 f166:=func130.trans (zC some kR)
 f169:=func132.trans (zC some kR)
 f240:=func184.trans (zC some kR)
 f241:=func271.trans (zC some kR)
 f276:=func234.trans (zC some kR)
 f277:=func299.trans (zC some kR)
 t0:=underlying0
 a0:=isAgg0
 z0:=sizeOf0
 v0:=zeroValue0
 t3:=underlying3
 a3:=isAgg3
 z3:=sizeOf3
 v3:=zeroValue3
 t4:=underlying4
 a4:=isAgg4
 z4:=sizeOf4
 v4:=zeroValue4
 t9:=underlying9
 a9:=isAgg9
 z9:=sizeOf9
 v9:=zeroValue9
 t20:=underlying20
 a20:=isAgg20
 z20:=sizeOf20
 v20:=zeroValue20
 t31:=underlying69
 a31:=isAgg69
 z31:=sizeOf69
 v31:=zeroValue69
 t37:=underlying192
 a37:=isAgg192
 z37:=sizeOf192
 v37:=zeroValue192
 t70:=underlying202
 a70:=isAgg202
 z70:=sizeOf202
 v70:=zeroValue202
 t72:=underlying204
 a72:=isAgg204
 z72:=sizeOf204
 v72:=zeroValue204
 t75:=underlying207
 a75:=isAgg207
 z75:=sizeOf207
 v75:=zeroValue207
 t76:=underlying208
 a76:=isAgg208
 z76:=sizeOf208
 v76:=zeroValue208
 t127:=underlying246
 a127:=isAgg246
 z127:=sizeOf246
 v127:=zeroValue246
 t164:=underlying284
 a164:=isAgg284
 z164:=sizeOf284
 v164:=zeroValue284 }
theorem Tryz.Builder_Extra_156:eP aA Tryz.lays156_ren:={
 sizeBuilder:=kR
 liesBuilder:=kR
 t5:=underlying5
 a5:=isAgg5
 z5:=sizeOf5
 v5:=zeroValue5
 infoByte:=kR
 cellsByte:=kR
 sizeByte:=kR
 neB5:=by decide }
open Go.RowKit in
theorem Tryz.strings_Join_none a c N w:
 Calls aA 203 #[.slice a 0 c,.string N] w fun e w'=>e= .returned (.string ⟨#[]⟩)∧w'=w:=Any.strings_Join_none Tryz.lays156 Tryz.Builder_Extra_156 a c N w
open Go.RowKit in
theorem Tryz.strings_Join W o c (xs:List ByteArray) N w (O:∀(j:Nat) x,xs[j]?=some x→w.cell? ⟨W,o+j,none⟩=some (.string x))(a1:W<w.heap.size)(hN:xs.length≤140737488355328)(Z:xs.length≤c)(a0:(Lib.join (xs.map (·.data.toList)) N.data.toList).length≤140737488355328):
 Calls aA 203 #[.slice (some ⟨W,o,none⟩) xs.length c,.string N] w fun e w'=>e= .returned (.string ⟨(Lib.join (xs.map (·.data.toList)) N.data.toList).toArray⟩)∧Below w.heap.size w w':=Any.strings_Join Tryz.lays156 Tryz.Builder_Extra_156 W o c xs N w O a1 hN Z a0
def Tryz.b2H:aC:=⟨fun|161=>202|231=>247|227=>248|233=>249|235=>250|228=>283|197=>272|151=>195|260=>300|152=>239|137=>217|119=>268|224=>269|225=>270|217=>260|266=>288|n=>n,fun|9=>9|4=>4|3=>3|5=>5|117=>313|116=>312|0=>0|124=>316|105=>328|21=>21|119=>341|46=>188|139=>372|138=>371|n=>n,fun|3=>4|4=>5|n=>n⟩
theorem Tryz.lays161:fA aA Tryz.b2H:={
 mixed:=kR
 f119:=func268.trans (zC some kR)
 f137:=func217.trans (zC some kR)
 f151:=func195.trans (zC some kR)
 f152:=func239.trans (zC some kR)
 f161:=func202.trans (zC some kR)
 f197:=func272.trans (zC some kR)
 f217:=func260.trans (zC some kR)
 f224:=func269.trans (zC some kR)
 f225:=func270.trans (zC some kR)
 f227:=func248.trans (zC some kR)
 f228:=func283.trans (zC some kR)
 f231:=func247.trans (zC some kR)
 f233:=func249.trans (zC some kR)
 f235:=func250.trans (zC some kR)
 f260:=func300.trans (zC some kR)
 f266:=func288.trans (zC some kR)
 t0:=underlying0
 a0:=isAgg0
 z0:=sizeOf0
 v0:=zeroValue0
 t3:=underlying3
 a3:=isAgg3
 z3:=sizeOf3
 v3:=zeroValue3
 t4:=underlying4
 a4:=isAgg4
 z4:=sizeOf4
 v4:=zeroValue4
 t5:=underlying5
 a5:=isAgg5
 z5:=sizeOf5
 v5:=zeroValue5
 t9:=underlying9
 a9:=isAgg9
 z9:=sizeOf9
 v9:=zeroValue9
 t21:=underlying21
 a21:=isAgg21
 z21:=sizeOf21
 v21:=zeroValue21
 t46:=underlying188
 a46:=isAgg188
 z46:=sizeOf188
 v46:=zeroValue188
 t105:=underlying328
 a105:=isAgg328
 z105:=sizeOf328
 v105:=zeroValue328
 t116:=underlying312
 a116:=isAgg312
 z116:=sizeOf312
 t117:=underlying313
 a117:=isAgg313
 z117:=sizeOf313
 v117:=zeroValue313
 t119:=underlying341
 a119:=isAgg341
 z119:=sizeOf341
 t124:=underlying316
 a124:=isAgg316
 z124:=sizeOf316
 v124:=zeroValue316
 t138:=underlying371
 a138:=isAgg371
 z138:=sizeOf371
 v138:=zeroValue371
 t139:=underlying372
 a139:=isAgg372
 z139:=sizeOf372
 v139:=zeroValue372
 g3:=kR
 g4:=by kernel_rfl }
open Go.RowKit in
theorem Tryz.strings_TrimLeft_one s c (N:c.toNat<128) w:
 Calls aA 202 #[.string s,.string ⟨#[c]⟩] w fun e w'=>e= .returned (.string ⟨(Lib.trimLeftB s.data.toList c).toArray⟩)∧w'=w:=Any.strings_TrimLeft_one Tryz.lays161 s c N w
def Tryz.b3i:aC:=⟨fun|160=>246|232=>280|231=>247|227=>248|234=>281|233=>249|236=>282|235=>250|228=>283|271=>309|151=>195|197=>272|120=>325|152=>239|260=>300|137=>217|119=>268|224=>269|225=>270|217=>260|266=>288|n=>n,fun|9=>9|4=>4|3=>3|5=>5|117=>313|116=>312|0=>0|124=>316|21=>21|105=>328|46=>188|119=>341|139=>372|138=>371|n=>n,fun|3=>4|4=>5|n=>n⟩
theorem Tryz.lays160:fB aA Tryz.b3i:={
 mixed:=kR
 f119:=func268.trans (zC some kR)
 f120:=func325.trans (zC some kR)
 f137:=func217.trans (zC some kR)
 f151:=func195.trans (zC some kR)
 f152:=func239.trans (zC some kR)
 f160:=func246.trans (zC some kR)
 f197:=func272.trans (zC some kR)
 f217:=func260.trans (zC some kR)
 f224:=func269.trans (zC some kR)
 f225:=func270.trans (zC some kR)
 f227:=func248.trans (zC some kR)
 f228:=func283.trans (zC some kR)
 f231:=func247.trans (zC some kR)
 f232:=func280.trans (zC some kR)
 f233:=func249.trans (zC some kR)
 f234:=func281.trans (zC some kR)
 f235:=func250.trans (zC some kR)
 f236:=func282.trans (zC some kR)
 f260:=func300.trans (zC some kR)
 f266:=func288.trans (zC some kR)
 f271:=func309.trans (zC some kR)
 t0:=underlying0
 a0:=isAgg0
 z0:=sizeOf0
 v0:=zeroValue0
 t3:=underlying3
 a3:=isAgg3
 z3:=sizeOf3
 v3:=zeroValue3
 t4:=underlying4
 a4:=isAgg4
 z4:=sizeOf4
 v4:=zeroValue4
 t5:=underlying5
 a5:=isAgg5
 z5:=sizeOf5
 v5:=zeroValue5
 t9:=underlying9
 a9:=isAgg9
 z9:=sizeOf9
 v9:=zeroValue9
 t21:=underlying21
 a21:=isAgg21
 z21:=sizeOf21
 v21:=zeroValue21
 t46:=underlying188
 a46:=isAgg188
 z46:=sizeOf188
 v46:=zeroValue188
 t105:=underlying328
 a105:=isAgg328
 z105:=sizeOf328
 v105:=zeroValue328
 t116:=underlying312
 a116:=isAgg312
 z116:=sizeOf312
 t117:=underlying313
 a117:=isAgg313
 z117:=sizeOf313
 v117:=zeroValue313
 t119:=underlying341
 a119:=isAgg341
 z119:=sizeOf341
 t124:=underlying316
 a124:=isAgg316
 z124:=sizeOf316
 v124:=zeroValue316
 t138:=underlying371
 a138:=isAgg371
 z138:=sizeOf371
 v138:=zeroValue371
 t139:=underlying372
 a139:=isAgg372
 z139:=sizeOf372
 v139:=zeroValue372
 g3:=kR
 g4:=by kernel_rfl }
def Tryz.b2N:aC:=⟨fun|119=>268|n=>n,fun|21=>21|4=>4|n=>n,fun|n=>n⟩
theorem Tryz.lays119:fC aA Tryz.b2N:={
 mixed:=kR
 f119:=func268.trans (zC some kR)
 t4:=underlying4
 a4:=isAgg4
 z4:=sizeOf4
 v4:=zeroValue4
 t21:=underlying21
 a21:=isAgg21
 z21:=sizeOf21
 v21:=zeroValue21 }
theorem Tryz.utf8_ValidRune r w:
 Calls aA 268 #[.int .i32 r] w fun e w'=>e= .returned (.bool (Lib.validRune r))∧w'=w:=Any.utf8_ValidRune Tryz.lays119 r w
def Tryz.b2O:aC:=⟨fun|106=>58|213=>109|265=>172|n=>n,fun|9=>9|3=>3|n=>n,fun|n=>n⟩
theorem Tryz.c4u:fD aA Tryz.b2O:={
 mixed:=kR
 f106:=func58.trans (zC some kR)
 f213:=func109.trans (zC some kR)
 f265:=func172.trans (zC some kR)
 t3:=underlying3
 a3:=isAgg3
 z3:=sizeOf3
 v3:=zeroValue3
 t9:=underlying9
 a9:=isAgg9
 z9:=sizeOf9
 v9:=zeroValue9 }
open Go.RowKit in
theorem Tryz.strings_Compare a b w:
 Calls aA 58 #[.string a,.string b] w fun e w'=>e= .returned (.int .i64 (Lib.compareBytes a.data.toList b.data.toList))∧w'=w:=Any.strings_Compare Tryz.c4u a b w
def Tryz.b2X:aC:=⟨fun|137=>217|217=>260|266=>288|n=>n,fun|9=>9|5=>5|3=>3|n=>n,fun|n=>n⟩
theorem Tryz.lays137:fE aA Tryz.b2X:={
 mixed:=kR
 f137:=func217.trans (zC some kR)
 f217:=func260.trans (zC some kR)
 f266:=func288.trans (zC some kR)
 t3:=underlying3
 a3:=isAgg3
 z3:=sizeOf3
 v3:=zeroValue3
 t5:=underlying5
 a5:=isAgg5
 z5:=sizeOf5
 v5:=zeroValue5
 t9:=underlying9
 a9:=isAgg9
 z9:=sizeOf9
 v9:=zeroValue9 }
open Go.RowKit in
theorem Tryz.strings_IndexByte s c w:
 Calls aA 217 #[.string s,.int .u8 c] w fun e w'=>e= .returned (.int .i64 (aV s.data.toList c.toNat.toUInt8))∧w'=w:=Any.strings_IndexByte Tryz.lays137 s c w
def Tryz.b2B:aC:=⟨fun|122=>59|215=>110|n=>n,fun|3=>3|4=>4|n=>n,fun|n=>n⟩
theorem Tryz.c3n:fF aA Tryz.b2B:={
 mixed:=kR
 f122:=func59.trans (zC some kR)
 f215:=func110.trans (zC some kR)
 t3:=underlying3
 a3:=isAgg3
 z3:=sizeOf3
 v3:=zeroValue3
 t4:=underlying4
 a4:=isAgg4
 z4:=sizeOf4
 v4:=zeroValue4 }
open Go.RowKit in
theorem Tryz.cmp_Compare_int x y w:
 Calls aA 59 #[.int .i64 x,.int .i64 y] w fun e w'=>e= .returned (.int .i64 (Lib.compareInt x y))∧w'=w:=Any.cmp_Compare_int Tryz.c3n x y w
def Tryz.b3q:aC:=⟨fun|219=>298|217=>260|225=>270|224=>269|267=>315|266=>288|314=>330|n=>n,fun|9=>9|3=>3|4=>4|5=>5|46=>188|146=>402|51=>238|n=>n,fun|1=>0|n=>n⟩
theorem Tryz.lays219:fG aA Tryz.b3q:={
 mixed:=kR
 f217:=func260.trans (zC some kR)
 f219:=func298.trans (zC some kR)
 f224:=func269.trans (zC some kR)
 f225:=func270.trans (zC some kR)
 f266:=func288.trans (zC some kR)
 f267:=func315.trans (zC some kR)
 f314:=func330.trans (zC some kR)
 t3:=underlying3
 a3:=isAgg3
 z3:=sizeOf3
 v3:=zeroValue3
 t4:=underlying4
 a4:=isAgg4
 z4:=sizeOf4
 v4:=zeroValue4
 t5:=underlying5
 a5:=isAgg5
 z5:=sizeOf5
 v5:=zeroValue5
 t9:=underlying9
 a9:=isAgg9
 z9:=sizeOf9
 v9:=zeroValue9
 t46:=underlying188
 a46:=isAgg188
 z46:=sizeOf188
 v46:=zeroValue188
 t51:=underlying238
 a51:=isAgg238
 z51:=sizeOf238
 v51:=zeroValue238
 t146:=underlying402
 a146:=isAgg402
 z146:=sizeOf402
 v146:=zeroValue402
 g1:=by kernel_rfl }
open Go.RowKit Go.Lib in
theorem Tryz.stringslite_Index_one s c w:
 Calls aA 298 #[.string s,.string ⟨#[c]⟩] w fun e w'=>e= .returned (.int .i64 (aV s.data.toList c))∧w'=w:=Any.stringslite_Index_one Tryz.lays219 s c w
def Tryz.b2E:aC:=⟨fun|138=>373|195=>374|218=>375|143=>376|219=>298|217=>260|225=>270|224=>269|267=>315|266=>288|314=>330|n=>n,fun|9=>9|3=>3|4=>4|5=>5|0=>0|46=>188|146=>402|51=>238|n=>n,fun|1=>0|n=>n⟩
theorem Tryz.lays138:fH aA Tryz.b2E:={
 mixed:=kR
 f138:=func373.trans (zC some kR)
 f143:=func376.trans (zC some kR)
 f195:=func374.trans (zC some kR)
 f217:=func260.trans (zC some kR)
 f218:=func375.trans (zC some kR)
 f219:=func298.trans (zC some kR)
 f224:=func269.trans (zC some kR)
 f225:=func270.trans (zC some kR)
 f266:=func288.trans (zC some kR)
 f267:=func315.trans (zC some kR)
 f314:=func330.trans (zC some kR)
 t0:=underlying0
 a0:=isAgg0
 z0:=sizeOf0
 v0:=zeroValue0
 t3:=underlying3
 a3:=isAgg3
 z3:=sizeOf3
 v3:=zeroValue3
 t4:=underlying4
 a4:=isAgg4
 z4:=sizeOf4
 v4:=zeroValue4
 t5:=underlying5
 a5:=isAgg5
 z5:=sizeOf5
 v5:=zeroValue5
 t9:=underlying9
 a9:=isAgg9
 z9:=sizeOf9
 v9:=zeroValue9
 t46:=underlying188
 a46:=isAgg188
 z46:=sizeOf188
 v46:=zeroValue188
 t51:=underlying238
 a51:=isAgg238
 z51:=sizeOf238
 v51:=zeroValue238
 t146:=underlying402
 a146:=isAgg402
 z146:=sizeOf402
 v146:=zeroValue402
 g1:=by kernel_rfl }
open Go.RowKit Go.Lib in
theorem Tryz.strings_Count_one s c w:
 Calls aA 373 #[.string s,.string ⟨#[c]⟩] w fun e w'=>e= .returned (.int .i64 (Lib.countByte s.data.toList c))∧w'=w:=Any.strings_Count_one Tryz.lays138 s c w
def Tryz.lays157_ren:aC:=⟨fun|157=>261|229=>256|199=>289|261=>311|311=>327|312=>328|n=>n,fun|9=>9|31=>69|3=>3|5=>5|4=>4|119=>341|0=>0|40=>254|152=>338|21=>21|154=>340|51=>238|141=>367|196=>393|193=>390|198=>396|49=>394|194=>391|201=>399|226=>417|46=>188|227=>418|n=>n,fun|0=>1|6=>3|n=>n⟩
theorem Tryz.lays157:fJ aA Tryz.lays157_ren:={
 mixed:=kR
 f157:=func261.trans (zC some kR)
 f199:=func289.trans (zC some kR)
 f229:=func256.trans (zC some kR)
 f261:=func311.trans (zC some kR)
 f311:=func327.trans (zC some kR)
 f312:=func328.trans (zC some kR)
 t0:=underlying0
 a0:=isAgg0
 z0:=sizeOf0
 v0:=zeroValue0
 t3:=underlying3
 a3:=isAgg3
 z3:=sizeOf3
 v3:=zeroValue3
 t4:=underlying4
 a4:=isAgg4
 z4:=sizeOf4
 v4:=zeroValue4
 t5:=underlying5
 a5:=isAgg5
 z5:=sizeOf5
 v5:=zeroValue5
 t9:=underlying9
 a9:=isAgg9
 z9:=sizeOf9
 v9:=zeroValue9
 t21:=underlying21
 a21:=isAgg21
 z21:=sizeOf21
 v21:=zeroValue21
 t31:=underlying69
 a31:=isAgg69
 z31:=sizeOf69
 v31:=zeroValue69
 t40:=underlying254
 a40:=isAgg254
 z40:=sizeOf254
 v40:=zeroValue254
 t46:=underlying188
 a46:=isAgg188
 z46:=sizeOf188
 v46:=zeroValue188
 t49:=underlying394
 a49:=isAgg394
 z49:=sizeOf394
 v49:=zeroValue394
 t51:=underlying238
 a51:=isAgg238
 z51:=sizeOf238
 v51:=zeroValue238
 t119:=underlying341
 a119:=isAgg341
 z119:=sizeOf341
 t141:=underlying367
 a141:=isAgg367
 z141:=sizeOf367
 v141:=zeroValue367
 t152:=underlying338
 a152:=isAgg338
 z152:=sizeOf338
 v152:=zeroValue338
 t154:=underlying340
 a154:=isAgg340
 z154:=sizeOf340
 v154:=zeroValue340
 t193:=underlying390
 a193:=isAgg390
 z193:=sizeOf390
 v193:=zeroValue390
 t194:=underlying391
 a194:=isAgg391
 z194:=sizeOf391
 v194:=zeroValue391
 t196:=underlying393
 a196:=isAgg393
 z196:=sizeOf393
 v196:=zeroValue393
 t198:=underlying396
 a198:=isAgg396
 z198:=sizeOf396
 v198:=zeroValue396
 t201:=underlying399
 a201:=isAgg399
 z201:=sizeOf399
 v201:=zeroValue399
 t226:=underlying417
 a226:=isAgg417
 z226:=sizeOf417
 v226:=zeroValue417
 t227:=underlying418
 a227:=isAgg418
 z227:=sizeOf418
 v227:=zeroValue418
 g0:=kR
 g6:=by kernel_rfl }
def Tryz.lays151_ren:aC:=⟨fun|151=>195|152=>239|137=>217|119=>268|224=>269|225=>270|217=>260|266=>288|n=>n,fun|9=>9|21=>21|4=>4|3=>3|5=>5|0=>0|46=>188|n=>n,fun|n=>n⟩
theorem Tryz.lays151:fK aA Tryz.lays151_ren:={
 mixed:=kR
 f119:=func268.trans (zC some kR)
 f137:=func217.trans (zC some kR)
 f151:=func195.trans (zC some kR)
 f152:=func239.trans (zC some kR)
 f217:=func260.trans (zC some kR)
 f224:=func269.trans (zC some kR)
 f225:=func270.trans (zC some kR)
 f266:=func288.trans (zC some kR)
 t0:=underlying0
 a0:=isAgg0
 z0:=sizeOf0
 v0:=zeroValue0
 t3:=underlying3
 a3:=isAgg3
 z3:=sizeOf3
 v3:=zeroValue3
 t4:=underlying4
 a4:=isAgg4
 z4:=sizeOf4
 v4:=zeroValue4
 t5:=underlying5
 a5:=isAgg5
 z5:=sizeOf5
 v5:=zeroValue5
 t9:=underlying9
 a9:=isAgg9
 z9:=sizeOf9
 v9:=zeroValue9
 t21:=underlying21
 a21:=isAgg21
 z21:=sizeOf21
 v21:=zeroValue21
 t46:=underlying188
 a46:=isAgg188
 z46:=sizeOf188
 v46:=zeroValue188 }
open Go.RowKit Go.Lib in
theorem Tryz.strings_ContainsRune_ascii s r w (h0:0≤r)(h1:r<128):
 Calls aA 195 #[.string s,.int .i32 r] w fun e w'=>e= .returned (.bool (decide (0≤aV s.data.toList r.toNat.toUInt8)))∧w'=w:=Any.strings_ContainsRune_ascii Tryz.lays151 s r w h0 h1
open Go.RowKit Go.Lib in
theorem Tryz.strings_Fields_any s w (O:s.size<4294967281)(N:Lib.TabIs aA w "strings.asciiSpace" .u8 Lib.asciiSpaceTab)(W:Lib.WhiteTab 3 w):
 Calls aA 261 #[.string s] w fun e w'=>∃A,e= .returned (.slice (some ⟨A,0,none⟩) (bF s.data.toList).length (bF s.data.toList).length)∧w.heap.size≤A∧
  w'.ownsRow w.heap.size 9 1 (.slice (some ⟨A,0,none⟩) (bF s.data.toList).length (bF s.data.toList).length) (bF s.data.toList).length ((bF s.data.toList).map fun x=>eU ⟨x.toArray⟩)∧Below w.heap.size w w':=Any.strings_Fields_any Tryz.lays157 kR kR kR s w O N W
def Tryz.b2W:aC:=⟨fun|229=>256|n=>n,fun|9=>9|40=>254|31=>69|152=>338|3=>3|0=>0|4=>4|21=>21|154=>340|n=>n,fun|n=>n⟩
theorem Tryz.c3l:fM aA Tryz.b2W:={
 mixed:=kR
 f229:=func256.trans (zC some kR)
 t0:=underlying0
 a0:=isAgg0
 z0:=sizeOf0
 v0:=zeroValue0
 t3:=underlying3
 a3:=isAgg3
 z3:=sizeOf3
 v3:=zeroValue3
 t4:=underlying4
 a4:=isAgg4
 z4:=sizeOf4
 v4:=zeroValue4
 t9:=underlying9
 a9:=isAgg9
 z9:=sizeOf9
 v9:=zeroValue9
 t21:=underlying21
 a21:=isAgg21
 z21:=sizeOf21
 v21:=zeroValue21
 t31:=underlying69
 a31:=isAgg69
 z31:=sizeOf69
 v31:=zeroValue69
 t40:=underlying254
 a40:=isAgg254
 z40:=sizeOf254
 v40:=zeroValue254
 t152:=underlying338
 a152:=isAgg338
 z152:=sizeOf338
 v152:=zeroValue338
 t154:=underlying340
 a154:=isAgg340
 z154:=sizeOf340
 v154:=zeroValue340 }
open Go.RowKit Go.Lib in
theorem Tryz.strings_FieldsFunc_grows g lb (eg:∀args w,(callFunc g args).run aA w= .ok (.enter g args) w) p s w (N:s.size≤4294967296)(O:PredGrows aA g lb p w):
 Calls aA 256 #[.string s,.func (.func g) #[] lb] w fun e w'=>∃A,e= .returned (.slice (some ⟨A,0,none⟩) (aW p s).length (aW p s).length)∧w.heap.size≤A∧
  w'.ownsRow w.heap.size 9 1 (.slice (some ⟨A,0,none⟩) (aW p s).length (aW p s).length) (aW p s).length ((aW p s).map eU)∧Below w.heap.size w w':=Any.strings_FieldsFunc_grows Tryz.c3l g lb eg p s w N O kR kR
def Tryz.lays110_ren:aC:=⟨fun|110=>116|109=>179|n=>n,fun|31=>69|9=>9|4=>4|3=>3|0=>0|n=>n,fun|n=>n⟩
theorem Tryz.lays110:fO aA Tryz.lays110_ren:={
 mixed:=kR
 f109:=func179.trans (zC some kR)
 f110:=func116.trans (zC some kR)
 t0:=underlying0
 a0:=isAgg0
 z0:=sizeOf0
 v0:=zeroValue0
 t3:=underlying3
 a3:=isAgg3
 z3:=sizeOf3
 v3:=zeroValue3
 t4:=underlying4
 a4:=isAgg4
 z4:=sizeOf4
 v4:=zeroValue4
 t9:=underlying9
 a9:=isAgg9
 z9:=sizeOf9
 v9:=zeroValue9
 t31:=underlying69
 a31:=isAgg69
 z31:=sizeOf69
 v31:=zeroValue69 }
open Go.Lib in
theorem Tryz.slices_Contains_string b off n c (zs:List ByteArray) x w (O:n≤zs.length)(N:n≤9223372036854775807)(W:∀j,j<zs.length→w.cell? ⟨b,off+j,none⟩=some (.string (zs.getD j ByteArray.empty))):
 Calls aA 116 #[.slice (some ⟨b,off,none⟩) n c,.string x] w fun e w'=>e= .returned (.bool (Lib.containsS (zs.take n) x))∧w'=w:=Any.slices_Contains_string Tryz.lays110 b off n c zs x w O N W
end Go.Proofs
section
namespace Go.Sx
theorem c2B l:(EF l).all eF=true:=by simp[EF,u8,eF]
theorem c0X x sp:(EF x++sp).take (x.length*1)=EF x:=by rw[dP,←QD x];exact List.take_left
end Go.Sx
namespace Go.Proofs.YtekmeaoblpfnpaaGreatDoor
open Go Go.Sx
theorem a0y{O o e}{S:World→Prop}{x y}{T E b off n c sz j:Nat}{kl}(W:o.op= .slice T x (some y) none none)(Z:ev e x=some (.slice (some ⟨b,off,Option.none⟩) n c))(hy:ev e y=some (.int kl (j:Int)))(hu:O.P.underlying T=some (.slice E))(N:∀w,(sizeOf E).run O.P w= .ok sz w)(hj:j≤n)(hc:j≤c):
 BO O o e S (.slice (some ⟨b,if c=j then off else off+j*sz,none⟩) (n-j) (c-j)):=by
 by_cases h:c=j
 ·intro a w ha _;have h1:(j:Int)≤n:=oM;simp[execOp,W,ha.eval Z,ha.eval hy,Instr.sliceAt,Instr.slice,run_underlying hu,Instr.sliceBounds,run_sliceBound,h1,N,h]
 rw[zD h];exact b1X W Z hy hu N hj oM
theorem AL.none{α:Type}{l:List α}{i}(h:i≤l.length):AL l i [] l:=⟨by simpa using h,sI⟩
theorem c5g{E x n}(h:E.length+x.length≤n):AL (buf E n) (if n=E.length then 0 else 0+E.length*1) (EF x) (buf (E++x) n):=by
 by_cases hc:n=E.length
 ·have:x=[]:=bD.1 oM;subst this;rw[zF hc,bW];exact AL.none (bM _)
 rw[zD hc,Nat.zero_add,dP];exact c3H h
theorem c1A s c I:Pure aA 373 [str s,str [c]] I (i64 (s.count c)):=
 Pure.of_same (bY Tryz.func373 dE rfl) fun w _=>by
  have h:=Tryz.strings_Count_one ⟨s.toArray⟩ c w;rw[NW]at h;exact h
end Go.Proofs.YtekmeaoblpfnpaaGreatDoor
end
namespace Rp
abbrev Tb:=UInt8→Option (List UInt8)
def one (r:Tb) (c:UInt8):List UInt8:=(r c).getD [c]
def rep (r:Tb) (s:List UInt8):List UInt8:=s.flatMap (one r)
def two (a : UInt8) (x : List UInt8) (b : UInt8) (y : List UInt8) : Tb := fun c => if c = a then some x else if c = b then some y else none
def w (r:Tb) (c:UInt8):Int:=(one r c).length-1
def gain (r:Tb) (s:List UInt8):Int:=(s.map (w r)).sum
def hits (r : Tb) (s : List UInt8) : Nat := s.countP fun c => (r c).isSome
theorem a5c r s:((rep r s).length:Int)=s.length+gain r s:=by
 induction s with
 |nil=>rfl
 |cons c s N=>
  have h1:(rep r (c::s)).length=(one r c).length+(rep r s).length:=by simp[rep]
  have h2:gain r (c::s)=w r c+gain r s:=by simp[gain]
  rw[h1,h2,aG];unfold w;omega
theorem b1S{r}:∀{s:List UInt8},hits r s=0→rep r s=s
 |[],_=>rfl
 |c::s,h=>by
  unfold hits at h;rw[dS]at h;have N:r c=none:=by
   cases hr:r c with
   |none=>rfl
   |some x=>rw[hr]at h;simp at h
  have:=b1S (r:=r) (s:=s) (by unfold hits;omega);show one r c++rep r s=c::s;rw[this];unfold one;rw[N];rfl
theorem KI {s : List UInt8} {k c} (h : s[k]? = some c) : s.take (k + 1) = s.take k ++ [c] := by
  rw [List.take_add_one, h]; rfl
theorem b9W r {s:List UInt8}{k c}(h:s[k]?=some c):rep r (s.take (k+1))=rep r (s.take k)++one r c:=by
 rw[KI h];simp[rep]
theorem b8k r {s:List UInt8}{k c}(h:s[k]?=some c):gain r (s.take (k+1))=gain r (s.take k)+w r c:=by
 rw[KI h];simp[gain]
theorem b7S r {s:List UInt8}{k c}(h:s[k]?=some c):hits r (s.take (k+1))=hits r (s.take k)+if (r c).isSome then 1 else 0:=by
 rw[KI h];simp[hits,List.countP_append,dS]
theorem b1h r s k:(rep r (s.take k)).length≤(rep r s).length:=by
 have h:rep r s=rep r (s.take k)++rep r (s.drop k):=by
  unfold rep;rw[←List.flatMap_append,dA]
 rw[h,aX];omega
def Two (r:Tb):Prop:=∀c x,r c=some x→x.length≤2
theorem b5A{r}(h:Two r) c: -1≤w r c∧w r c≤1:=by
 unfold w one;cases hr:r c with
 |none=>simp
 |some x=>have:=h c x hr;simp;omega
theorem a5j{r}(h:Two r):∀s:List UInt8,-(s.length:Int)≤gain r s∧gain r s≤s.length
 |[]=>by simp[gain]
 |c::s=>by
  have h1:=a5j h s;have h2:=b5A h c;simp only[gain,aJ,bQ,aG]at h1 ⊢;omega
def cg (r:Tb) (s:List UInt8) (ks:List UInt8):Int:=(ks.map fun k=>(s.count k:Int)*w r k).sum
def cn (s:List UInt8) (ks:List UInt8):Nat:=(ks.map fun k=>s.count k).sum
theorem c3N r s {ks:List UInt8}{i k}(h:ks[i]?=some k):cg r s (ks.take (i+1))=cg r s (ks.take i)+s.count k*w r k:=by
 rw[KI h];simp[cg]
theorem c4C s {ks:List UInt8}{i k}(h:ks[i]?=some k):cn s (ks.take (i+1))=cn s (ks.take i)+s.count k:=by
 rw[KI h];simp[cn]
theorem b4p r c s:∀(ks:List UInt8),ks.Nodup→cg r (c::s) ks=cg r s ks+if c∈ks then w r c else 0
 |[],_=>by simp[cg]
 |k::ks,h=>by
  obtain⟨h1,h2⟩:=List.nodup_cons.1 h;have N:=b4p r c s ks h2;simp only[cg,aJ,bQ,List.count_cons]at N ⊢
  by_cases hk:c=k
  ·subst hk;rw[zD h1]at N;simp only[beq_self_eq_true,if_true,aU,true_or];rw[N]
   push_cast
   rw[Int.add_mul];omega
  have O:(c == k)=false:=by simpa using hk
  simp only[O,aU,hk,false_or];rw[N];simp;omega
theorem b7E{r ks}(N:ks.Nodup)(O:∀c,c∈ks↔(r c).isSome=true):∀s:List UInt8,cg r s ks=gain r s
 |[]=>by
  have h:∀l:List UInt8,(l.map fun k=>(([]:List UInt8).count k:Int)*w r k).sum=0:=fun l=>by
   induction l with
   |nil=>rfl
   |cons k l W=>rw[aJ,bQ,W];simp
  exact h ks
 |c::s=>by
  rw[b4p r c s ks N,b7E N O s];simp only[gain,aJ,bQ]
  by_cases h:c∈ks
  ·rw[zF h];omega
  rw[zD h];have:r c=none:=by
   cases hr:r c with
   |none=>rfl
   |some x=>exact absurd ((O c).2 (by rw[hr];rfl)) h
  have Z:w r c=0:=by unfold w one;rw[this];rfl
  omega
theorem b7s{r}(h:Two r){s}(N:s.length≤1000000000):∀ks:List UInt8,-(ks.length*1000000000:Int)≤cg r s ks∧cg r s ks≤ks.length*1000000000
 |[]=>by simp[cg]
 |k::ks=>by
  have h1:=b7s h N ks;have h2:=b5A h k;have h3:s.count k≤s.length:=bH;have O:cg r s (k::ks)=s.count k*w r k+cg r s ks:=by simp[cg]
  have W:w r k= -1∨w r k=0∨w r k=1:=oM;rw[O,aG];rcases W with e|e|e<;>rw[e]<;>omega
theorem mul_two{r}(h:Two r){s:List UInt8}(O:s.length≤1000000000) k: -1000000000≤s.count k*w r k∧s.count k*w r k≤1000000000:=by
 have h2:=b5A h k;have h3:s.count k≤s.length:=bH;have N:w r k= -1∨w r k=0∨w r k=1:=oM;rcases N with e|e|e<;>rw[e]<;>omega
theorem c3Z{r ks}(O:∀c,c∈ks↔(r c).isSome=true){s}(h:cn s ks=0):hits r s=0:=by
 have h0:∀k∈ks,s.count k=0:=by
  intro k N;unfold cn at h;exact List.sum_eq_zero_iff_forall_eq_nat.1 h _ (List.mem_map_of_mem N)
 unfold hits;rw[List.countP_eq_zero];intro c W Z;have:=h0 c ((O c).2 Z);rw[List.count_eq_zero]at this;exact this W
end Rp
section
namespace Go.Proofs.YtekmeaoblpfnpaaGreatDoor
open _root_.Go.Proofs.Tryz
open Go Go.Sx
def VOf (I:Heap) (o:Option (List UInt8)) (v:Value):Prop:=(o=none∧v= .slice none 0 0)∨∃x,o=some x∧a3Y I x v
theorem VOf.mono{I N o v}(h:VOf I o v)(O:Le I N):VOf N o v:=h.imp id fun⟨x,h1,h2⟩=>⟨x,h1,h2.mono O⟩
def BSG (r:Rp.Tb) (I:Heap) (xb:Nat):Prop:=∃(V:Nat→Value) (tr:Value) (ks:List UInt8),I xb=some (yX 364 (tab V tr))∧JH 9 I (ks.map fun k=>[k]) tr∧ks.Nodup∧(∀c,c∈ks↔(r c).isSome=true)∧ks.length≤256∧Rp.Two r∧∀c:UInt8,VOf I (r c) (V c.toNat)
theorem BSG.mono{r I O W}(h:BSG r I W)(N:Le I O):BSG r O W:=let ⟨V,tr,ks,h1,h2,h3,Z,h5,h6,h7⟩:=h;⟨V,tr,ks,N _ _ h1,h2.mono N,h3,Z,h5,h6,fun c=>(h7 c).mono N⟩
theorem b9l r xb s (hs:s.length≤1000000000) I (hb:BSG r I xb):Pure aA 371 [ptr xb 0,str s] I (str (Rp.rep r s)):=by
 refine yY.toPure ?_;obtain⟨V,tr,ks,Z,⟨tb,tc,_,rfl,ao⟩,ap,a7,aq,a1,hV⟩:=hb;rw[List.length_map]at Z;have b0:=Rp.a5j a1 s;have b1:=Rp.a5c r s;refine zQ func371 fun w0 _=>?_;refine yU 17 ?_;refine Cj.join (ι:=Bool) (fun y=>y=false→Rp.rep r s=s) (fun y=>[(0,ptr xb 0),(1,str s),(5,i64 ((Rp.rep r s).length:Int)),(6,.bool y)]) (fun y=>I) (fun y=>[]) ?_ (fun a8=>?_)
 ·intro y hy;refine DI ?_ ?_<;>intro ab
  ·refine AB ?_;rw[hy (by have h:=ab;simpa using h)];exact rT
  refine yU 5 ?_;refine bK rfl (ZC (n:=(Rp.rep r s).length) (c:=(Rp.rep r s).length) (by1:=1) (z:=(.int .u8 0)) rfl rfl rfl rfl rfl IJ kR rfl oM oM oM ?_);intro b2 _;refine yU 15 ?_;refine Cj.loop (ι:=Nat) (fun j=>j≤s.length) (fun j=>s.length-j) (fun j=>[(0,ptr xb 0),(1,str s),(12,.slice (some ⟨b2,0,none⟩) (Rp.rep r s).length (Rp.rep r s).length),(13,i64 ((Rp.rep r (s.take j)).length:Int)),(14,i64 (j:Int))]) (fun j=>I) (fun j=>[(b2,yX 5 (buf (Rp.rep r (s.take j)) (Rp.rep r s).length))]) 0 (bM _) rT rfl (by rw[List.take_zero];exact zC (fun l=>[(_,yX 5 l)]) (c3d _)) ?_;intro j hj;have ar:=Rp.b1h r s j;refine zK ?_ ?_<;>intro au aj
  ·have a4:j<s.length:=oM;obtain⟨c,a0⟩:∃c,s[j]?=some c:=⟨_,BM a4⟩;have ac:=Rp.b9W r a0;have az:=Rp.b1h r s (j+1);refine yU 8 ?_;refine aN (CB rfl rfl rfl BQ oM a0) ?_;refine yU 5 ?_;rcases hV c with⟨O,W⟩|⟨x,O,l,cc,sp,fr,W,hl⟩
   ·have N:Rp.one r c=[c]:=by unfold Rp.one;rw[O];rfl
    have hw:Rp.w r c=0:=by unfold Rp.w;rw[N];rfl
    have a2:Rp.rep r (s.take (j+1))=Rp.rep r (s.take j)++[c]:=ac.trans (by rw[N]);have a5:(Rp.rep r (s.take (j+1))).length=(Rp.rep r (s.take j)).length+1:=by rw[a2,aX];rfl
    refine yU 4 ?_;refine aN (EU (off':=c.toNat) rfl rfl rfl a1H UQ oM (by have:=c.toNat_lt;omega) sI) ?_;refine aN (DU TY (bG Z) (LY _ _ c.toNat_lt)) ?_;refine J.ev 100 (.slice none 0 0) rfl W ?_;refine zW ((Rp.rep r (s.take j)).length) ?_;refine bK rfl (IY 0 rfl rfl rfl rfl rfl rfl tS5 rfl (.inl rfl) (by rw[b3s ar];omega) (by rw[c3b _ oM];exact dB) ?_);refine yU 14 ?_;refine bU (j+1) oM oM ⟨rfl,rfl,rfl,by rw[a5];rfl,rfl,trivial⟩ rfl (zC (fun l=>[(_,yX _ (buf l _))]) a2)
   have ad:=a1 c x O;have N:Rp.one r c=x:=by unfold Rp.one;rw[O];rfl
   have hw:Rp.w r c=(x.length:Int)-1:=by unfold Rp.w;rw[N]
   have a2:Rp.rep r (s.take (j+1))=Rp.rep r (s.take j)++x:=ac.trans (by rw[N]);have a5:(Rp.rep r (s.take (j+1))).length=(Rp.rep r (s.take j)).length+x.length:=by rw[a2,aX]
   refine yU 4 ?_;refine aN (EU (off':=c.toNat) rfl rfl rfl a1H UQ oM (by have:=c.toNat_lt;omega) sI) ?_;refine aN (DU TY (bG Z) (LY _ _ c.toNat_lt)) ?_;refine J.ev 100 (.slice (some ⟨l,0,none⟩) x.length cc) rfl W ?_;refine yU 4 ?_;refine Cj.EX [] [] 13 kR ?_;refine yU 3 ?_;refine dW 3 rfl (a0y rfl rfl rfl IJ tS5 oM oM) ?_;refine yU 4 ?_;refine dW 8 rfl (EU (off':=c.toNat) rfl rfl rfl a1H UQ oM (by have:=c.toNat_lt;omega) sI) ?_;refine dW 9 rfl (DU TY (yZ.OA Z) (LY _ _ c.toNat_lt)) ?_;refine JA.ev 111 (.slice (some ⟨l,0,none⟩) x.length cc) rfl W ?_;refine zO 10 rfl (c3w (m:=x.length) 0 rfl rfl rfl rfl rfl IJ tS5 (eH (ys:=EF x) (bG hl) (by rw[eG];exact c0X x sp) (by rw[QD,dP]) (c2B x)) oM rfl (c5g (E:=Rp.rep r (s.take j)) (x:=x) (n:=(Rp.rep r s).length) oM) dB ?_);refine yU 11 ?_;refine bU (j+1) oM oM ⟨rfl,rfl,rfl,by rw[a5];rfl,rfl,trivial⟩ rfl (zC (fun l=>[(_,yX _ (buf l _))]) a2)
  have a3:s.take j=s:=aI oM;refine yU 8 ?_;refine aN (JD (Rp.rep r s) rfl rfl rfl IJ BQ UZ (yZ.at 0 rfl) (by rw[a3,c1q rfl,bW];exact aI (by rw[eG,QD];exact dN _))) ?_;refine AB ?_;exact rT
 refine yU 5 ?_;refine aN (DU a3F (bG Z) (a1k _ _)) ?_;refine zK ?_ ?_<;>intro av al
 ·refine yU 5 ?_;refine aN (DU a3F (bG Z) (a1k _ _)) ?_;refine yU 5 ?_;refine Cj.loop (ι:=Nat) (fun i=>i≤ks.length) (fun i=>ks.length-i) (fun i=>[(0,ptr xb 0),(1,str s),(5,i64 ((s.length:Int)+Rp.cg r s (ks.take i))),(6,.bool (decide (0<Rp.cn s (ks.take i)))),(30,.slice (some ⟨tb,0,none⟩) ks.length tc),(31,i64 (ks.length:Int)),(32,i64 (i:Int))]) (fun i=>I) (fun i=>[]) 0 (bM _) ⟨rfl,rfl,(zC (fun z=>some (aP .i64 z)) (by simp[Rp.cg])),rfl,rfl,rfl,rfl,trivial⟩ rfl rfl ?_;intro i hi;have aw:=Rp.b7s a1 hs (ks.take i);rw[dU,dX hi]at aw;refine zK ?_ ?_<;>intro ax am
  ·have a4:i<ks.length:=oM;obtain⟨k,hk⟩:∃k,ks[i]?=some k:=⟨_,BM a4⟩;have ae:=Rp.c3N r s hk;have af:=Rp.c4C s hk;have hm:=Rp.mul_two a1 hs k;have aq:=k.toNat_lt;have hcl:s.count k≤s.length:=bH;obtain⟨x,ag,l,cc,sp,fr,W,hl⟩:=(hV k).resolve_left fun g=>by have:=(a7 k).1 (CX hk);rw[g.1]at this;cases this
   have ad:=a1 k x ag;have hw:Rp.w r k=(x.length:Int)-1:=by unfold Rp.w Rp.one;rw[ag];rfl
   refine zW i ?_;refine aN (AX rfl rfl CU (bG ao) (FT (x:=[k]) (by rw[List.getElem?_map,hk];rfl))) ?_;refine zX (c1A s k _) ?_;refine zK ?_ ?_<;>intro a6 a9
   ·have h0:s.count k≠0:=by have h:=a6;simpa using h
    refine yU 1 ?_;refine Cj.EX [] [] 14 kR ?_;refine yU 4 ?_;refine dW 4 rfl (CB rfl rfl rfl BQ dE rfl) ?_;refine yU 2 ?_;refine dW 7 rfl (EU (off':=k.toNat) rfl rfl rfl a1H UQ oM (by have:=k.toNat_lt;omega) sI) ?_;refine dW 8 rfl (DU TY (yZ.OA Z) (LY _ _ k.toNat_lt)) ?_;refine JA.ev 49 (.slice (some ⟨l,0,none⟩) x.length cc) rfl W ?_;refine yU 2 ?_;refine JA.ev 51 (i64 (Rp.w r k)) rfl (zC i64 hw.symm) ?_;refine yU 14 ?_;refine bU (i+1) oM oM ⟨rfl,rfl,(zC (fun z=>some (aP .i64 z)) (by rw[ae];omega)),(zC (fun z=>some (bI z)) (by rw[af];exact(zH oM).symm)),rfl,rfl,rfl,trivial⟩ rfl rfl
   have h0:s.count k=0:=by have h:=a6;simpa using h
   refine yU 7 ?_;refine bU (i+1) oM oM ⟨rfl,rfl,(zC (fun z=>some (aP .i64 z)) (by rw[ae,h0];omega)),(zC (fun z=>some (bI z)) (by rw[af,h0];rfl)),rfl,rfl,rfl,trivial⟩ rfl rfl
  have a3:ks.take i=ks:=aI oM;refine yU 4 ?_;exact a8 (decide (0<Rp.cn s ks)) _ _ _ (fun h=>Rp.b1S (Rp.c3Z a7 (by have:=FQ h;omega))) ⟨rfl,rfl,(zC (fun z=>some (aP .i64 z)) (by rw[a3,Rp.a5c,Rp.b7E ap a7])),(zC (fun l=>some (bI (decide (0<Rp.cn s l)))) a3),trivial⟩ rfl rfl
 refine yU 6 ?_;refine Cj.loop (ι:=Nat) (fun j=>j≤s.length) (fun j=>s.length-j) (fun j=>[(0,ptr xb 0),(1,str s),(5,i64 ((s.length:Int)+Rp.gain r (s.take j))),(6,.bool (decide (0<Rp.hits r (s.take j)))),(10,i64 (j:Int))]) (fun j=>I) (fun j=>[]) 0 (bM _) ⟨rfl,rfl,(zC (fun z=>some (aP .i64 z)) (by simp[Rp.gain])),rfl,rfl,trivial⟩ rfl rfl ?_;intro j hj;have ay:=Rp.a5j a1 (s.take j);rw[dU,dX hj]at ay;refine zK ?_ ?_<;>intro an aa
 ·have a4:j<s.length:=oM;obtain⟨c,a0⟩:∃c,s[j]?=some c:=⟨_,BM a4⟩;have ah:=Rp.b8k r a0;have ai:=Rp.b7S r a0;refine yU 8 ?_;refine aN (CB rfl rfl rfl BQ oM a0) ?_;refine yU 5 ?_;rcases hV c with⟨O,W⟩|⟨x,O,l,cc,sp,fr,W,hl⟩
  ·have N:Rp.one r c=[c]:=by unfold Rp.one;rw[O];rfl
   have hw:Rp.w r c=0:=by unfold Rp.w;rw[N];rfl
   refine yU 4 ?_;refine aN (EU (off':=c.toNat) rfl rfl rfl a1H UQ oM (by have:=c.toNat_lt;omega) sI) ?_;refine aN (DU TY (bG Z) (LY _ _ c.toNat_lt)) ?_;refine J.ev 69 (.slice none 0 0) rfl W ?_;refine yU 12 ?_;refine bU (j+1) oM oM ⟨rfl,rfl,(zC (fun z=>some (aP .i64 z)) (by rw[ah,hw];omega)),(zC (fun z=>some (bI z)) (by rw[ai,O];rfl)),rfl,trivial⟩ rfl rfl
  have ad:=a1 c x O;have N:Rp.one r c=x:=by unfold Rp.one;rw[O];rfl
  have hw:Rp.w r c=(x.length:Int)-1:=by unfold Rp.w;rw[N]
  refine yU 4 ?_;refine aN (EU (off':=c.toNat) rfl rfl rfl a1H UQ oM (by have:=c.toNat_lt;omega) sI) ?_;refine aN (DU TY (bG Z) (LY _ _ c.toNat_lt)) ?_;refine J.ev 69 (.slice (some ⟨l,0,none⟩) x.length cc) rfl W ?_;refine yU 11 ?_;refine aN (EU (off':=c.toNat) rfl rfl rfl a1H UQ oM (by have:=c.toNat_lt;omega) sI) ?_;refine aN (DU TY (bG Z) (LY _ _ c.toNat_lt)) ?_;refine J.ev 77 (.slice (some ⟨l,0,none⟩) x.length cc) rfl W ?_;refine yU 16 ?_;refine bU (j+1) oM oM ⟨rfl,rfl,(zC (fun z=>some (aP .i64 z)) (by rw[ah,hw];omega)),(zC (fun z=>some (bI z)) (by rw[ai,O];exact(zH (Nat.succ_pos _)).symm)),rfl,trivial⟩ rfl rfl
 have a3:s.take j=s:=aI oM;refine yU 4 ?_;exact a8 (decide (0<Rp.hits r s)) _ _ _ (fun h=>Rp.b1S (by have:=FQ h;omega)) ⟨rfl,rfl,(zC (fun z=>some (aP .i64 z)) (by rw[a3,Rp.a5c])),(zC (fun l=>some (bI (decide (0<Rp.hits r l)))) a3),trivial⟩ rfl rfl
end Go.Proofs.YtekmeaoblpfnpaaGreatDoor
end
section
namespace Go.Proofs.YtekmeaoblpfnpaaGreatDoor
open _root_.Go.Proofs.Tryz
open Go Go.Sx
theorem _root_.Go.Sx.AU.tr{H H'}{i b T:Nat}{f tr v}(h:AU H i (b,yX T (tab f v)) H'):AU H i (b,.cells ((tab f tr).set 256 v).toArray T) H':=by rw[b7F];exact h
theorem _root_.Go.Sx.AU.tb{H H'}{i b T k:Nat}{f:Nat→Value}{tr v:Value}(N:k<256)(h:AU H i (b,yX T (tab (fun j=>if j=k then v else f j) tr)) H'):AU H i (b,.cells ((tab f tr).set k v).toArray T) H':=by rw[c4n _ _ _ N];exact h
def YM (olds:List (List UInt8)) (r:Rp.Tb):Prop:=∀(rb:Nat) (a0 a1 a2 a3 osl:Value) (I:Heap),JH 9 I olds osl→yY aA 279 [ptr rb 0] I [(rb,yX 308 [a0,a1,a2,a3,osl])]
 (fun e I' H'=>∃xb,e= .returned (.iface 365 (ptr xb 0))∧BSG r I' xb∧H'=[(rb,yX 308 [a0,a1,a2,a3,osl])])
theorem BSG.two{a b x y}(O:b≠a)(hx:x.length≤2)(hy:y.length≤2){I Z v1 v2 tr}(h:I Z=some (yX 364 (tab (fun j=>if j=a.toNat then v2 else if j=b.toNat then v1 else .slice none 0 0) tr)))(h1:a3Y I y v1)(h2:a3Y I x v2)(h3:JH 9 I [[b],[a]] tr):BSG (Rp.two a x b y) I Z:=by
 refine⟨_,tr,[b,a],h,h3,by simp[O],fun c=>?_,sI,fun c z N=>?_,fun c=>?_⟩
 ·unfold Rp.two
  by_cases ha:c=a
  ·simp[ha]
  by_cases hb:c=b
  ·simp[hb,O]
  simp[ha,hb]
 ·unfold Rp.two at N
  split at N
  ·cases N;exact hx
  split at N
  ·cases N;exact hy
  cases N
 unfold Rp.two
 by_cases ha:c=a
 ·subst ha;exact .inr ⟨x,zF rfl,by rw[zF rfl];exact h2⟩
 have W:¬c.toNat=a.toNat:=fun e=>ha (dY.1 e)
 by_cases hb:c=b
 ·subst hb;exact .inr ⟨y,by rw[zD ha,zF rfl],by rw[zD W,zF rfl];exact h1⟩
 have a0:¬c.toNat=b.toNat:=fun e=>hb (dY.1 e);exact .inl ⟨by rw[zD ha,zD hb],by rw[zD W,zD a0]⟩
theorem b3R N T off cs x (O:cs[off]?=some (.int .u32 x)) I:yY aA 277 [ptr N off] I [(N,yX T cs)] (fun e W H'=>e= .returned (.bool (x != 0))∧H'=[(N,yX T cs)]):=
 yY.c3A (bY func277 dE rfl) O fun w h=>Sync.b7I ⟨N,off,none⟩ x w h
theorem c3z N T d O r o I:yY aA 304 [ptr N 1] I [(N,yX T [d,.int .i32 0,O,r,o])] (fun e W H'=>e= .returned (.tuple #[])∧H'=[(N,yX T [d,.int .i32 1,O,r,o])]):=
 yY.a6F (off:=1) (bY func304 dE rfl) rfl fun w h h2=>Sync.lock_free ⟨N,1,none⟩ w h h2
theorem b7j N T d O r o I:a1P aA 305 [ptr N 1] .returning I [(N,yX T [d,.int .i32 1,O,r,o])] (fun W I' H'=>W= .returning∧H'=[(N,yX T [d,.int .i32 0,O,r,o])]):=
 a1P.a6F (off:=1) (v:= .tuple #[]) (bY func305 dE rfl) rfl fun w h h2=>(Sync.unlock_deferred ⟨N,1,none⟩ .returning w h h2).mono fun _ _ _ ⟨Z,g2,g3⟩=>⟨Z,g2,.inl g3⟩
theorem c0f N T x m O r o I:a1P aA 306 [ptr N 0,.bool true] .returning I [(N,yX T [x,m,O,r,o])] (fun W I' H'=>W= .returning∧H'=[(N,yX T [.int .u32 1,m,O,r,o])]):=
 a1P.a6F (off:=0) (v:= .tuple #[]) (bY func306 dE rfl) rfl fun w h h2=>(Sync.store_deferred ⟨N,0,none⟩ x .returning w h h2).mono fun _ _ _ ⟨Z,g2,g3⟩=>⟨Z,g2,.inr g3⟩
theorem a1c p q r z ob oc I:yY aA 197 [.slice (some ⟨ob,0,none⟩) 4 oc] I [(ob,yX 9 ([p,q,r,z].map str))]
 (fun e I' H'=>∃W N,e= .returned (ptr W 0)∧H'=[(W,yX 308 [.int .u32 0,.int .i32 0,.int .u32 0,.nilIface,N])]∧JH 9 I' [p,q,r,z] N):=by
 refine zQ func197 fun w0 _=>?_;refine yU 20 ?_;refine bK rfl (AQ (by':=15) (n:=0) (g:=none) (xs:=[]) [_] rfl rfl rfl rfl rfl CG (.inr ⟨_,CG⟩) kR AV NP rfl rT rfl (eH (yZ.at 0 rfl) rfl rfl rfl) oM ?_);intro _ Z;refine aN (zN (pl:= #[(0,3),(3,1),(4,1)]) rfl rfl zeroValue308 rfl underlying308 (fun w=>by simp[sizeOf304,sizeOf306,a0R]) (FB.part rfl (a2p _ _) rfl lsA FB.none)) ?_;refine yU 1 ?_;intro b3 _;refine yU 4 ?_;obtain⟨gb,gc,a0,rfl,a1⟩:=Z.some dE;refine Ej.pull (aO (aO aY)) ?_;refine dZ a1 (fun _ _ O=>?_);refine Ej.keep (Keeps.k (dK Keeps.n)) ?_;refine zV ?_;exact⟨b3,_,rfl,rfl,gb,gc,a0,rfl,O⟩
def a5m (rb:Nat) (d m sm r o:Value):HL:=[(rb,yX 308 [d,m,sm,r,o])]
def c1V (r:Rp.Tb) (I:Heap) (rb:Nat) (d m:Value) (H:HL):Prop:=∃xb,BSG r I xb∧H=a5m rb d m (.int .u32 0) (.iface 365 (ptr xb 0)) (.slice none 0 0)
theorem b0R{N r}(hB:YM N r) W d m O I (ho:JH 9 I N O):yY aA 245 [ptr W 0] I (a5m W d m (.int .u32 0) .nilIface O)
 (fun e I' H'=>e= .returned (.tuple #[])∧c1V r I' W d m H'):=by
 refine zQ func245 fun w0 _=>?_;refine yU 4 ?_;refine bP aY ?_;refine AP (hB W _ _ _ _ O _ ho) ?_;intro _ _ _ _ Z;obtain⟨xb,h,a0,rfl⟩:=Z;cases h;refine yU 11 ?_;refine Ej.QW rfl rfl ?_;exact⟨rfl,xb,a0,rfl⟩
theorem b8d{Z r}(hB:YM Z r) N a0 I (O:JH 9 I Z a0):yY aA 278 [ptr N 0,.func (.func 245) #[ptr N 0] #[]] I (a5m N (.int .u32 0) (.int .i32 0) (.int .u32 0) .nilIface a0)
 (fun e I' H'=>e= .returned (.tuple #[])∧c1V r I' N (.int .u32 1) (.int .i32 0) H'):=by
 refine yY.b9R func278 rfl dE (Nat.le_of_ble_eq_true rfl) ?_;intro w0 _;refine yU 5 ?_;refine bP aY ?_;refine AP (c3z N 308 _ _ _ _ _) ?_;intro _ _ _ a2 a5;have O:=O.mono a2;obtain⟨h,rfl⟩:=a5;cases h;refine yU 7 ?_;refine J.defer rfl rfl rfl rfl rfl ?_;refine J.QT (aN qq2 ?_);refine aN (EL rfl rfl) ?_;refine aN (CV (off':=0) underlying304 sizeOf298) ?_;refine bP aY ?_;refine AP (b3R N 308 0 _ 0 rfl _) ?_;intro _ _ _ W a3;have O:=O.mono W;obtain⟨h,rfl⟩:=a3;cases h;refine yU 9 ?_;refine J.defer rfl rfl rfl rfl rfl ?_;refine J.nsr (aN qq2 ?_);refine bP aY ?_;refine AP (b0R hB N _ _ a0 _ O) ?_;intro _ _ _ a1 a4;have O:=O.mono a1;obtain⟨h,xb,a6,rfl⟩:=a4;cases h;refine yU 1 ?_;refine Ej.c5q (H1:=[_]) (R1:=[]) rfl (c0f N 308 _ _ _ _ _ _) (fun _=>b7j N 308 _ _ _ _ _) (fun _ W=>b5K.none rfl ?_);exact⟨rfl,xb,a6.mono W,rfl⟩
theorem c5Z{O r}(hB:YM O r) N W I (Z:JH 9 I O W):yY aA 244 [ptr N 0,.func (.func 245) #[ptr N 0] #[]] I (a5m N (.int .u32 0) (.int .i32 0) (.int .u32 0) .nilIface W)
 (fun e I' H'=>e= .returned (.tuple #[])∧c1V r I' N (.int .u32 1) (.int .i32 0) H'):=by
 refine zQ func244 fun w0 _=>?_;refine yU 5 ?_;refine bP aY ?_;refine AP (b3R N 308 0 _ 0 rfl _) ?_;intro _ _ _ a1 a3;have Z:=Z.mono a1;obtain⟨h,rfl⟩:=a3;cases h;refine yU 7 ?_;refine bP aY ?_;refine AP (b8d hB N W _ Z) ?_;intro _ _ _ a0 a2;have Z:=Z.mono a0;obtain⟨h,xb,a4,rfl⟩:=a2;cases h;refine yU 1 ?_;refine Ej.QW rfl rfl ?_;exact⟨rfl,xb,a4,rfl⟩
theorem a6c{N r}(hB:YM N r) W O s (hs:s.length≤1000000000) I (Z:JH 9 I N O):yY aA 198 [ptr W 0,str s] I (a5m W (.int .u32 0) (.int .i32 0) (.int .u32 0) .nilIface O)
 (fun e I' H'=>e= .returned (str (Rp.rep r s))∧H'=[]):=by
 refine zQ func198 fun w0 _=>?_;refine yU 12 ?_;refine bP aY ?_;refine AP (c5Z hB W O _ Z) ?_;intro _ _ _ a0 a1;have Z:=Z.mono a0;obtain⟨h,xb,a2,rfl⟩:=a1;cases h;refine yU 9 ?_;refine bK rfl (b7y (H1:=[]) (T:=365) rfl rfl rfl rfl rfl kR underlying365 (b9l _ xb s hs _ a2) ?_ (fun _ _ _ _ h=>by cases h.1) (fun _ _ h=>by cases h.1));rintro _ _ _ _ ⟨h,rfl,rfl⟩;cases h;refine AB ?_;exact rT
end Go.Proofs.YtekmeaoblpfnpaaGreatDoor
end
section
namespace Go.Proofs.YtekmeaoblpfnpaaGreatDoor
open _root_.Go.Proofs.Tryz
open Go Go.Sx
theorem a3W:(Value.agg dM).cells=(tab (fun _=> .slice none 0 0) (.slice none 0 0)).toArray:=by
 show dM=_;kernel_rfl
theorem b8Y:YM [[32],[],[45],[]] (Rp.two 32 [] 45 []):=by
 intro _ _ _ _ _ _ I ho;obtain⟨ob,_,_,rfl,W⟩:=ho;rw[show([[32],[],[45],[]]:List (List UInt8)).length=4 from rfl];refine zQ func279 fun w0 _=>?_;refine yU 44 ?_;refine Cj.rounds 3 ?_;refine dD ?_;refine yU 9 ?_;refine aZ rfl (fun a6=>?_) (fun a6=>aF (aT (bC (by first|rfl|decide)) a6));refine zW 0 ?_;refine yU 5 ?_;refine aZ rfl (fun a7=>aF (aT (bC (by first|rfl|decide)) a7)) (fun a7=>?_);refine zW 1 ?_;refine yU 5 ?_;refine aZ rfl (fun a8=>?_) (fun a8=>aF (aT (bC (by first|rfl|decide)) a8));refine yU 10 ?_;refine dH ?_;refine dD ?_;refine yU 9 ?_;refine aZ rfl (fun a9=>?_) (fun a9=>aF (aT (bC (by first|rfl|decide)) a9));refine zW 2 ?_;refine yU 5 ?_;refine aZ rfl (fun aa=>aF (aT (bC (by first|rfl|decide)) aa)) (fun aa=>?_);refine zW 3 ?_;refine yU 5 ?_;refine aZ rfl (fun ab=>?_) (fun ab=>aF (aT (bC (by first|rfl|decide)) ab));refine yU 10 ?_;refine dH ?_;refine dD ?_;refine yU 9 ?_;refine aZ rfl (fun ac=>aF (aT (bC (by first|rfl|decide)) ac)) (fun ac=>?_);refine yU 18 ?_;refine aN (RG rfl rfl rfl dE dE) ?_;refine bK rfl (ZC (n:=0) (c:=2) (by1:=16) (z:=(str [])) rfl rfl rfl rfl rfl CG kR rfl oM oM oM ?_);intro ad ae;refine aN (zN (zs:=tab (fun _=> .slice none 0 0) (.slice none 0 0)) (cs:=tab (fun _=> .slice none 0 0) (.slice (some ⟨ad,0,none⟩) 0 2)) (pl:= #[(0,256),(256,1)]) rfl rfl zeroValue364 a3W underlying364 (fun w=>by simp[sizeOf362,a0R]) (FB.part rfl rfl rfl (b4b _ _ _) FB.none)) ?_;refine bK rfl (a5B (zs:=tab (fun _=> .slice none 0 0) (.slice none 0 0)) rfl rfl rfl zeroValue364 a3W ?_);intro an af;refine bK rfl (CS 0 rfl rfl rfl rfl rfl (b3E (fun _=>rfl) rfl) sizeOf364 (GV _ _) rfl (AL.all (by rw[GV,GV])) dB ?_);refine bP aY ?_;refine bP (aO (aO aY)) ?_;refine yU 12 ?_;refine Cj.rounds 3 ?_;refine dD ?_;refine yU 7 ?_;refine aZ rfl (fun a0=>?_) (fun a0=>aF (aT (bC (by first|rfl|decide)) a0));refine zW 2 ?_;refine yU 1 ?_;refine aN (CB (c:=45) rfl rfl rfl BQ dE rfl) ?_;refine zW 3 ?_;refine yU 10 ?_;refine aN (AX rfl rfl TY (yZ.at 1 rfl) (LY _ _ dE)) ?_;refine J.ev 116 (.slice none 0 0) rfl (by first|rfl|exact zD dE) ?_;refine yU 6 ?_;refine aN (DU a3F (yZ.at 1 rfl) (a1k _ _)) ?_;refine yU 2 ?_;intro _ _;refine aN (JD [45] rfl rfl rfl IJ BQ UZ (yZ.at 0 rfl) rfl) ?_;refine yU 1 ?_;intro _ _;refine bK rfl (AQ (by':=15) (n:=0) (g:=some (ad,2,cZ 2 (str []))) (xs:=[]) [_,_,_,_] rfl rfl rfl rfl rfl CG (.inr ⟨_,CG⟩) kR AV NP rfl ⟨ae,rfl,rfl⟩ rfl (eH (yZ.at 0 rfl) rfl rfl rfl) oM ?_);intro _ ag;refine yU 1 ?_;refine bK rfl (IY 3 rfl rfl rfl rfl (a0d _ _) (a4h _ _) a0R rfl (.inl rfl) (by rw[GV];decide) (AU.tr (aK (aK (aK dB)))) ?_);refine yU 5 ?_;refine bK rfl (QH rfl rfl rfl rfl BQ IJ UZ ?_);intro ao _ _ _ ah _;refine J.persist ah (fun _ a4 N=>?_);have W:=a4 _ _ W;refine yU 2 ?_;refine bK rfl (IY 3 rfl rfl rfl rfl rfl rfl UQ rfl (.inl rfl) (by rw[GV];decide) (AU.tb dE (aK (aK (aK dB)))) ?_);refine yU 8 ?_;refine dH ?_;refine dD ?_;refine yU 7 ?_;refine aZ rfl (fun a1=>?_) (fun a1=>aF (aT (bC (by first|rfl|decide)) a1));refine zW 0 ?_;refine yU 1 ?_;refine aN (CB (c:=32) rfl rfl rfl BQ dE rfl) ?_;refine zW 1 ?_;refine yU 10 ?_;refine aN (AX rfl rfl TY (yZ.at 3 rfl) (LY _ _ dE)) ?_;refine J.ev 116 (.slice none 0 0) rfl (by first|rfl|exact zD dE) ?_;refine yU 6 ?_;refine aN (DU a3F (yZ.at 3 rfl) (a1k _ _)) ?_;refine yU 2 ?_;intro _ _;refine aN (JD [32] rfl rfl rfl IJ BQ UZ (yZ.at 0 rfl) rfl) ?_;refine yU 1 ?_;intro _ _;refine RD 15 [_,_,_,_,_,_] ag ?_;intro _ ai;refine yU 1 ?_;refine bK rfl (IY 5 rfl rfl rfl rfl (a0d _ _) (a4h _ _) a0R rfl (.inl rfl) (by rw[GV];decide) (AU.tr (aK (aK (aK (aK (aK dB)))))) ?_);refine yU 5 ?_;refine bK rfl (QH rfl rfl rfl rfl BQ IJ UZ ?_);intro ap _ _ _ aj _;refine J.persist aj (fun _ Z a5=>?_);have W:=Z _ _ W;have N:=Z _ _ N;refine yU 2 ?_;refine bK rfl (IY 5 rfl rfl rfl rfl rfl rfl UQ rfl (.inl rfl) (by rw[GV];decide) (AU.tb dE (aK (aK (aK (aK (aK dB)))))) ?_);refine yU 8 ?_;refine dH ?_;refine dD ?_;refine yU 7 ?_;refine aZ rfl (fun a2=>aF (aT (bC (by first|rfl|decide)) a2)) (fun a2=>?_);refine yU 12 ?_;obtain⟨gb,gc,aq,rfl,ar⟩:=ai.some dE;refine Ej.pull (aO (aO (aO (aO (aO (aO aY)))))) ?_;refine dZ ar (fun _ a3 al=>?_);refine Ej.pull (aO (aO (aO (aO (aO aY))))) ?_;refine dZ af (fun _ O am=>?_);refine Ej.keep (dK (dK (dK (dK (Keeps.k Keeps.n))))) ?_;refine zV ?_;exact⟨an,rfl,BSG.two dE dE dE am ⟨ao,_,_,_,rfl,O _ _ (a3 _ _ N)⟩ ⟨ap,_,_,_,rfl,O _ _ (a3 _ _ a5)⟩ ⟨gb,gc,aq,rfl,O _ _ al⟩,rfl⟩
theorem c3r s:Rp.rep (Rp.two 32 [] 45 []) s=Ke.rep s:=by
 induction s with
 |nil=>rfl
 |cons c s N=>
  show Rp.one _ c++Rp.rep _ s=Ke.rep (c::s);rw[N];unfold Ke.rep Rp.one Rp.two;rw[List.filter_cons,Ke.c6e]
  by_cases h1:c=32
  ·simp[h1]
  by_cases h2:c=45
  ·simp[h2]
  simp[h1,h2]
theorem b3c O N s (W:s.length≤1000000000) I (Z:JH 9 I [[32],[],[45],[]] N):yY aA 198 [ptr O 0,str s] I (a5m O (.int .u32 0) (.int .i32 0) (.int .u32 0) .nilIface N) (fun e I' H'=>e= .returned (str (Ke.rep s))∧H'=[]):=by
 rw[←c3r];exact a6c b8Y O N s W I Z
end Go.Proofs.YtekmeaoblpfnpaaGreatDoor
end
namespace Ke
open Go Go.Sx
def a2f:Nat→List (Nat×Bs)→ML Int
 |_,[]=>[]
 |i,(c,s)::r=>((c:Int),dI s,i)::a2f (i+1) r
def a3s (l:List (Nat×Bs)):ML Int:=a2f 0 l
theorem cc(c d:Nat):((c:Int) == (d:Int))=(c == d):=by rw[Bool.eq_iff_iff,beq_iff_eq,beq_iff_eq];omega
theorem a4Q:∀(l:List (Nat×Bs)) (i c:Nat),AA (a2f i l) (c:Int)=(l.lookup c).map dI
 |[],_,_=>rfl
 |(d,s)::r,i,c=>by
  simp only[a2f,AA,cc,dV]
  by_cases h:c=d
  ·subst h;simp
  have:(c == d)=false:=by simpa using h
  rw[this];simp only[dJ,if_false];exact a4Q r (i+1) c
theorem b1r:∀(l:List (Nat×Bs)) (i c:Nat) (s:Bs),c ∉ l.map (·.1)→BD (a2f i l) (c:Int) (dI s) (i+l.length)=a2f i (l++[(c,s)])
 |[],_,_,_,_=>rfl
 |(d,t)::r,i,c,s,h=>by
  simp only[aJ,aU,not_or]at h;have:(c == d)=false:=by simpa using h.1
  simp only[a2f,BD,cc,this,aS,aG];simp only[dJ,if_false];rw[←b1r r (i+1) c s h.2,show i+1+r.length=i+(r.length+1) by omega]
theorem a0P:∀{l:List (Nat×Bs)} {c:Nat},c ∉ l.map (·.1)→l.lookup c=none
 |[],_,_=>rfl
 |(d,t)::r,c,h=>by
  simp only[aJ,aU,not_or]at h;have:(c == d)=false:=by simpa using h.1
  rw[dV,this];exact a0P h.2
theorem b2a{l}{c:Nat}{s}(h:c ∉ l.map (·.1)):BD (a3s l) (c:Int) (dI s) l.length=a3s (l++[(c,s)])∧EN (a3s l) (c:Int) l.length=(l++[(c,s)]).length:=by
 refine⟨by have:=b1r l 0 c s h;rwa [Nat.zero_add]at this,?_⟩;unfold EN a3s;rw[a4Q,a0P h];simp
def c5N:List Bs:=rows.map fun p=>p.1++32::p.2
theorem a1X:∀(x y:List (Bs×Bs)),JO (x++y)=JO x++JO y
 |[],_=>rfl
 |(a,b)::r,y=>by simp only[aS,JO,a1X r y,dL]
theorem a4m{k a b}(h:rows[k]?=some (a,b)):JO (rows.take (k+1))=JO (rows.take k)++(runes b).map (·,a):=by
 obtain⟨N,O⟩:=bT.1 h;rw[List.take_succ_eq_append_getElem N,O,a1X];simp[JO]
theorem fresh{k c a b x y}(h:rows[k]?=some (a,b))(Z:runes b=x++c::y):c ∉ (JO (rows.take k)++x.map (·,a)).map (·.1):=by
 have N:=a8R;have e:rows=rows.take k++(a,b)::rows.drop (k+1):=by
  obtain⟨O,hg⟩:=bT.1 h;rw[←hg,←List.drop_eq_getElem_cons O,dA]
 rw[←a5O,e,a1X]at N;simp only[JO,Z,bV,aJ]at N;have e2:(JO (rows.take k)).map (·.1)++((x.map (·,a)).map (·.1)++c::(y.map (·,a)).map (·.1)++(JO (rows.drop (k+1))).map (·.1))=((JO (rows.take k)).map (·.1)++(x.map (·,a)).map (·.1))++c::((y.map (·,a)).map (·.1)++(JO (rows.drop (k+1))).map (·.1)):=sI;rw[e2,List.nodup_append]at N;intro W;rw[bV]at W;exact N.2.2 c W c (.head _) rfl
theorem a8r:∀p∈rows,p.1.all (fun c=>decide (c≠32))=true∧p.1.length≤10∧p.2.length≤100:=by decide +kernel
def cutAt (c:UInt8):Bs→Bs×Bs×Bool
 |[]=>([],[],false)
 |d::r=>if d=c then([],r,true)else(d::(cutAt c r).1,(cutAt c r).2)
theorem a9i:∀{a b:Bs} {c:UInt8},a.all (fun d=>decide (d≠c))=true→cutAt c (a++c::b)=(a,b,true)
 |[],b,c,_=>by simp[cutAt]
 |d::r,b,c,h=>by
  rw[List.all_cons,dR]at h;have h1:d≠c:=zA h.1;simp only[aS,cutAt,zD h1,a9i h.2]
theorem a3p:∀(c:UInt8) (s:Bs),(aV s c= -1∧cutAt c s=(s,[],false))∨∃n:Nat,aV s c=n∧n<s.length∧cutAt c s=(s.take n,s.drop (n+1),true)
 |c,[]=> .inl rT
 |c,d::r=>by
  unfold aV
  by_cases hd:d=c
  ·subst hd;exact .inr ⟨0,sI,sI,by simp[cutAt]⟩
  have N:(d == c)=false:=by simpa using hd
  rw[N];rcases a3p c r with⟨h1,h2⟩|⟨n,O,g2,W⟩
  ·rw[h1];exact .inl ⟨sI,by simp[cutAt,hd,h2]⟩
  rw[O];have Z:((n:Int) == -1)=false:=by
   rw[beq_eq_false_iff_ne];omega
  rw[Z];exact .inr ⟨n+1,sI,by simp;omega,by simp[cutAt,hd,W]⟩
theorem a4E{b i x}(h:runes b=x++runes (b.drop i))(N:i<b.length):runes b=x++(aH ⟨b.toArray⟩ i).1::runes (b.drop (i+(aH ⟨b.toArray⟩ i).2)):=by
 rw[h,ZJ N]
theorem b0D{b i x}(h:runes b=x++runes (b.drop i))(N:i<b.length):runes b=(x++[(aH ⟨b.toArray⟩ i).1])++runes (b.drop (i+(aH ⟨b.toArray⟩ i).2)):=by
 rw[a4E h N];simp
theorem b5n{b i x}(h:runes b=x++runes (b.drop i))(N:¬i<b.length):runes b=x:=by
 rw[h,XG oM,bW]
end Ke
section
namespace Go.Proofs.YtekmeaoblpfnpaaGreatDoor
open Go Go.Sx
def Tab (I:Heap) (b:Nat):Prop:=I b=some (zY (fun a:Int=>aP .i32 a) (Ke.a3s Ke.tab) 207)
theorem Tab.mono{I N b}(h:Tab I b)(O:Le I N):Tab N b:=O _ _ h
theorem WQ{a b:Prop}[Decidable a][Decidable b](h:(decide a && decide b)=true):a∧b:=by simpa using h
theorem WH{a b:Prop}[Decidable a][Decidable b](h:(decide a && decide b)=false):¬(a∧b):=fun g=>by simp[g.1,g.2]at h
theorem JI c a b I:Pure aA 183 [.int .i32 c,.int .i32 a,.int .i32 b] I (.bool (decide (a≤c) && decide (c≤b))):=by
 refine zQ Tryz.func183 fun w0 _=>?_;refine FM ?_ ?_<;>intro N
 ·refine zV ?_;refine⟨?_,rfl,rfl⟩;have h:=N
  first|(simp_all;done)|(simp_all;omega)
 refine zV ?_;refine⟨?_,rfl,rfl⟩;have h:=N
 first|(simp_all;done)|(simp_all;omega)
theorem QM (c b : Nat) (hc : c ≤ 1114111) I (hT : Tab I b) : Pure Tryz.prog 129 [.int .i32 (c : Int), .map (some b)] I (str (Ke.char c)) := by
 have hm : AA (Ke.a3s Ke.tab) (c : Int) = (Ke.tab.lookup c).map str := Ke.a4Q _ 0 c
 refine zQ Tryz.func129 fun w0 hw0 => ?_
 refine zX (JI _ _ _ _) ?_
 refine DI (fun hc1 => ?_) (fun hc1 => ?_)
 ·have c7x1 := WQ hc1
  refine zV ?_
  refine ⟨?_, rfl, rfl⟩
  refine congrArg (fun l => Ending.returned (str l)) ?_
  unfold Ke.char
  rw [if_pos (by omega)]; exact Ke.KF (by unfold Ke.PO; omega)
 have c7x2 := WH hc1
 refine zX (JI _ _ _ _) ?_
 refine DI (fun hc3 => ?_) (fun hc3 => ?_)
 ·have c7x3 := WQ hc3
  refine zV ?_
  refine ⟨?_, rfl, rfl⟩
  refine congrArg (fun l => Ending.returned (str l)) ?_
  unfold Ke.char
  rw [if_pos (by omega)]; exact Ke.KF (by unfold Ke.PO; omega)
 have c7x4 := WH hc3
 refine zX (JI _ _ _ _) ?_
 refine DI (fun hc4 => ?_) (fun hc4 => ?_)
 ·have c14x5 := WQ hc4
  refine zV ?_
  refine ⟨?_, rfl, rfl⟩
  refine congrArg (fun l => Ending.returned (str l)) ?_
  unfold Ke.char
  rw [if_neg (by omega), if_pos (by omega)]; exact (congrArg (fun n : Int => (Utf8.encode n).data.toList) (by omega)).trans (Ke.KF (c := c + 32) (by unfold Ke.PO; omega))
 have c14x6 := WH hc4
 refine zK (fun hc5 hc5p => ?_) (fun hc5 hc5p => ?_)
 ·have c20x7 := ED hc5
  refine zV ?_
  refine ⟨?_, rfl, rfl⟩
  refine congrArg (fun l => Ending.returned (str l)) ?_
  unfold Ke.char
  rw [if_neg (by omega), if_neg (by omega), if_pos (by omega)]
 have c20x8 := FQ hc5
 refine zX (JI _ _ _ _) ?_
 refine DI (fun hc6 => ?_) (fun hc6 => ?_)
 ·have c23x9 := WQ hc6
  refine zV ?_
  refine ⟨?_, rfl, rfl⟩
  refine congrArg (fun l => Ending.returned (str l)) ?_
  unfold Ke.char
  rw [if_neg (by omega), if_neg (by omega), if_neg (by omega), if_pos (by omega)]
 have c23x10 := WH hc6
 refine zX (JI _ _ _ _) ?_
 refine DI (fun hc8 => ?_) (fun hc8 => ?_)
 ·have c23x11 := WQ hc8
  refine zV ?_
  refine ⟨?_, rfl, rfl⟩
  refine congrArg (fun l => Ending.returned (str l)) ?_
  unfold Ke.char
  rw [if_neg (by omega), if_neg (by omega), if_neg (by omega), if_pos (by omega)]
 have c23x12 := WH hc8
 refine yU 8 ?_
 refine J.z (a6w (kv := fun a : Int => Value.int .i32 a) (l := Ke.a3s Ke.tab) (a := (c : Int)) rfl rfl rfl rfl Tryz.underlying200 (ET.int b5t) NP (yZ.LK hT)) ?_
 refine DI (fun hc9 => ?_) (fun hc9 => ?_)
 ·obtain ⟨x, hx⟩ := Option.isSome_iff_exists.1 (show (Ke.tab.lookup c).isSome = true by have h := hc9; rw [hm] at h; simpa using h)
  refine Cj.ev 5 (str x) rfl (by rw [hm, hx]; rfl) ?_
  refine zV ?_
  refine ⟨?_, rfl, rfl⟩
  refine congrArg (fun l => Ending.returned (str l)) ?_
  unfold Ke.char
  rw [if_neg (by omega), if_neg (by omega), if_neg (by omega), if_neg (by omega), hx]
 have hx : Ke.tab.lookup c = none := by have h := hc9; rw [hm] at h; simpa using h
 refine zK (fun hc10 hc10p => ?_) (fun hc10 hc10p => ?_)
 ·have c36x13 := CO hc10
  refine zV ?_
  refine ⟨?_, rfl, rfl⟩
  refine congrArg (fun l => Ending.returned (str l)) ?_
  unfold Ke.char
  rw [if_neg (by omega), if_neg (by omega), if_neg (by omega), if_neg (by omega), hx]
  simp only
  rw [if_pos (by omega)]; rfl
 have c36x14 := CW hc10
 refine zX (JI _ _ _ _) ?_
 refine DI (fun hc11 => ?_) (fun hc11 => ?_)
 ·have c39x15 := WQ hc11
  refine zV ?_
  refine ⟨?_, rfl, rfl⟩
  refine congrArg (fun l => Ending.returned (str l)) ?_
  unfold Ke.char
  rw [if_neg (by omega), if_neg (by omega), if_neg (by omega), if_neg (by omega), hx]
  simp only
  rw [if_neg (by omega), if_pos (by omega)]; exact Ke.KF (by unfold Ke.PO; omega)
 have c39x16 := WH hc11
 refine zX (JI _ _ _ _) ?_
 refine DI (fun hc13 => ?_) (fun hc13 => ?_)
 ·have c39x17 := WQ hc13
  refine zV ?_
  refine ⟨?_, rfl, rfl⟩
  refine congrArg (fun l => Ending.returned (str l)) ?_
  unfold Ke.char
  rw [if_neg (by omega), if_neg (by omega), if_neg (by omega), if_neg (by omega), hx]
  simp only
  rw [if_neg (by omega), if_pos (by omega)]; exact Ke.KF (by unfold Ke.PO; omega)
 have c39x18 := WH hc13
 refine zX (JI _ _ _ _) ?_
 refine FM (fun hg14 => ?_) (fun hg14 => ?_)
 ·have c49x19 := WQ hg14
  refine zK (fun hc15 hc15p => ?_) (fun hc15 hc15p => ?_)
  ·have c46x20 : (c : Int) ≠ 930 := by have h := hc15; simpa using h
   refine zV ?_
   refine ⟨?_, rfl, rfl⟩
   refine congrArg (fun l => Ending.returned (str l)) ?_
   unfold Ke.char
   rw [if_neg (by omega), if_neg (by omega), if_neg (by omega), if_neg (by omega), hx]
   simp only
   rw [if_neg (by omega), if_neg (by omega), if_pos (by omega)]; exact (congrArg (fun n : Int => (Utf8.encode n).data.toList) (by omega)).trans (Ke.KF (c := c + 32) (by unfold Ke.PO; omega))
  have c46x21 : ¬ (c : Int) ≠ 930 := by have h := hc15; simpa using h
  refine zX (JI _ _ _ _) ?_
  refine DI (fun hc17 => ?_) (fun hc17 => ?_)
  ·have c46x22 := WQ hc17
   refine zV ?_
   refine ⟨?_, rfl, rfl⟩
   refine congrArg (fun l => Ending.returned (str l)) ?_
   unfold Ke.char
   rw [if_neg (by omega), if_neg (by omega), if_neg (by omega), if_neg (by omega), hx]
   simp only
   rw [if_neg (by omega), if_neg (by omega), if_pos (by omega)]; exact (congrArg (fun n : Int => (Utf8.encode n).data.toList) (by omega)).trans (Ke.KF (c := c + 32) (by unfold Ke.PO; omega))
  have c46x23 := WH hc17
  refine zV ?_
  refine ⟨?_, rfl, rfl⟩
  refine congrArg (fun l => Ending.returned (str l)) ?_
  unfold Ke.char
  rw [if_neg (by omega), if_neg (by omega), if_neg (by omega), if_neg (by omega), hx]
  simp only
  rw [if_neg (by omega), if_neg (by omega), if_neg (by omega)]
 have c49x24 := WH hg14
 refine zX (JI _ _ _ _) ?_
 refine DI (fun hc19 => ?_) (fun hc19 => ?_)
 ·have c46x25 := WQ hc19
  refine zV ?_
  refine ⟨?_, rfl, rfl⟩
  refine congrArg (fun l => Ending.returned (str l)) ?_
  unfold Ke.char
  rw [if_neg (by omega), if_neg (by omega), if_neg (by omega), if_neg (by omega), hx]
  simp only
  rw [if_neg (by omega), if_neg (by omega), if_pos (by omega)]; exact (congrArg (fun n : Int => (Utf8.encode n).data.toList) (by omega)).trans (Ke.KF (c := c + 32) (by unfold Ke.PO; omega))
 have c46x26 := WH hc19
 refine zV ?_
 refine ⟨?_, rfl, rfl⟩
 refine congrArg (fun l => Ending.returned (str l)) ?_
 unfold Ke.char
 rw [if_neg (by omega), if_neg (by omega), if_neg (by omega), if_neg (by omega), hx]
 simp only
 rw [if_neg (by omega), if_neg (by omega), if_neg (by omega)]
