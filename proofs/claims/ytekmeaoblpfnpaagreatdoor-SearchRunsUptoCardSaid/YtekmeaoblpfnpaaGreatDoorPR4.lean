/-
  Own texts on the laws of the seat, joined: the logic, and contracts of functions. Conditions: none.
-/
import Derived.Test.YtekmeaoblpfnpaaGreatDoorNmR
import Derived.Test.YtekmeaoblpfnpaaGreatDoorPR3
import Derived.Lib.TrimUEq
import Derived.Lib.TrimAscii
import Derived.Lib.MapLaws
import Derived.Shelf.Strings.Builder1
import Derived.Shelf.Strings.Builder2
import Derived.Shelf.Strings.OnBuilder
import Derived.Shelf.Strings.Trim
import Derived.Shelf.Small.Utf8
import Derived.Shelf.Small.Bits
import Derived.Shelf.Small.Strs
import Derived.Shelf.Small.Wraps
import Derived.Shelf.Strings.BuilderF
import Derived.Shelf.Strings.BuilderK
import Derived.Shelf.Strings.BuilderRune
import Derived.Shelf.Utf8.AppendRune
import Derived.Shelf.Utf8.AppendRunePlain
import Derived.Shelf.Utf8.RuneCount
import Derived.Shelf.Strings.Builder2Cap
import Derived.Shelf.Strconv.Itoa0
import Derived.Shelf.Strings.Search1
import Derived.Shelf.Strings.Search2
import Derived.Shelf.Strings.Search3
import Derived.Shelf.Strings.Cut
import Derived.Shelf.Strings.Count
import Derived.Shelf.LaysM
import Derived.Shelf.Strings.Shaped
import Derived.Shelf.GgClosure.StringsIndexFunc
import Derived.Ground.GgwProg
import Derived.Shelf.GgClosure.StringsIndexFuncTop
import Derived.Shelf.Strings.Prefix
import Derived.Shelf.Strings.Split
import Derived.Shelf.Strings.Fields
import Derived.Shelf.Strings.SplitShaped
import Derived.Shelf.Unicode.Latin
import Derived.Shelf.Unicode.Decode
import Derived.Shelf.Strings.Runes
import Derived.Shelf.Strings.RuneCount
import Derived.Shelf.Strings.AsciiSet
import Derived.Shelf.Unicode.DecodeSlow
import Derived.Shelf.Unicode.DecodeAny
import Derived.Shelf.Unicode.Is16White
import Derived.Shelf.Unicode.IsSpaceAny
import Derived.Shelf.Unicode.DecodeLast
import Derived.Shelf.Unicode.Is16WhiteD
import Derived.Shelf.Unicode.IsSpaceAnyD
import Derived.Shelf.Strings.FieldsAny
import Derived.Shelf.Strings.FieldsFuncAny
import Derived.Shelf.Unicode.CaseLookup
import Derived.Shelf.Unicode.CaseConvert
import Derived.Shelf.Unicode.CaseTo
import Derived.Shelf.Unicode.CaseLaid
import Derived.Shelf.Strings.MapAny
import Derived.Shelf.Strings.CaseAny
import Derived.Shelf.Unicode.Is16Any
import Derived.Shelf.Unicode.Is32Any
import Derived.Shelf.Unicode.ExclAny
import Derived.Shelf.Strings.FuncGrows
import Derived.Shelf.Strings.FieldsFuncGrows
import Derived.Shelf.Strings.BuilderCap
import Derived.Shelf.Strings.MapGrows
import Derived.Shelf.Slices.Turned
import Derived.Shelf.Slices.Equal
import Derived.Ground.Names2Prog
import Derived.Shelf.Slices.SearchI
import Derived.Shelf.Slices.Empties2
import Derived.Lib.Bytealg
set_option maxRecDepth 100000
set_option maxHeartbeats 40000000
open Go.Proofs.Tryz renaming prog -> aA,zeroCells364 -> dN
open UInt8 renaming ofNat -> aB,toNat_inj -> dZ
open Go.Ending renaming returned -> aC
open Go.Shelf renaming Ren -> aF
open Bool renaming noConfusion -> aG,false_eq_true -> dK,and_eq_true -> dS
open List renaming length_cons -> aH,take_of_length_le -> aJ,map_cons -> aK,cons_append -> aU,mem_cons -> aW,length_append -> aZ,length_eq_zero_iff -> bH,count_le_length -> bJ,sum_cons -> bU,getElem?_eq_some_iff -> bV,map_append -> bY,append_nil -> bZ,drop_eq_nil_of_le -> cZ,replicate -> dA,take_append_drop -> dB,append_assoc -> dM,length_drop -> dR,countP_cons -> dU,length_take -> dV,lookup_cons -> dW,drop_zero -> eH
open Go.Utf8 renaming decode -> aI,encode -> aN,valid -> dG
open Go.Sx.J renaming z -> aO,op -> bP,pull -> bT
open Go.Sx.lS renaming s -> aP,z -> dD
open Go.Value renaming int -> aQ,bool -> bK,oneCell' -> eG,string -> eX
open Go.Sx.Pull renaming s -> aS,z -> bC
open Go.Lib renaming decodeL_width -> aT,indexByte -> aX,goFieldsP -> aY,fieldsD -> bI,decodeL_drop -> bM,decodeL_rune -> dH
open Eq renaming trans -> aV,symm -> bG
open Go.Sx.jR renaming EH -> bD
open Go.Sx.Cj renaming cond -> bF
open Nat renaming zero_le -> bQ,le_refl -> dP,mul_one -> dQ,min_eq_left -> dY
open Go.Sx.Ej renaming round -> bW,rounds -> dI,persist -> eF
open Go.Sx.Enters renaming of -> cO
open Go.Sx.Rj renaming succ -> dF
open Go.Sx renaming str -> dJ
open Go.Sx.Keeps renaming d -> dL
open Go.Sx.JA renaming zt -> dX
open Go.Sx.Src renaming slice -> eP
open Go.Proofs.Builder renaming Extra -> eU
open Go.Proofs.Lays renaming n158 -> eY,n156 -> fA,n161 -> fB,n160 -> fC,n119 -> fD,n106 -> fE,n137 -> fF,n122 -> fG,n219 -> fH,n138 -> fJ,n157 -> fK,n151 -> fM,n229 -> fO,n110 -> fP
namespace Ke
open Go.Lib (decodeL decodeN)
abbrev Bs:=List UInt8
def wO:Nat→Bs→List Nat
 |0,_=>[]
 |_+1,[]=>[]
 |f+1,c::r=>(decodeL (c::r)).1::wO f ((c::r).drop (decodeL (c::r)).2)
def runes (s:Bs):List Nat:=wO s.length s
theorem a2d:∀(f g:Nat) (s:Bs),s.length≤f→s.length≤g→wO f s=wO g s
 |0,0,_,_,_=>rfl
 |0,g+1,s,h,_=>by
  have:s=[]:=bH.1 oM;subst this;rfl
 |f+1,0,s,_,h=>by
  have:s=[]:=bH.1 oM;subst this;rfl
 |f+1,g+1,[],_,_=>rfl
 |f+1,g+1,c::r,h1,h2=>by
  have A:=aT (c::r);simp only[aH]at h1 h2;simp only[wO];rw[a2d f g _ (by simp;omega) (by simp;omega)]
theorem a9O:runes []=[]:=rfl
theorem zU{s}(h:s≠[]):runes s=(decodeL s).1::runes (s.drop (decodeL s).2):=by
 cases s with
 |nil=>exact absurd rfl h
 |cons c r=>
  have A:=aT (c::r);show wO (r.length+1) (c::r)=_;simp only[wO];unfold runes;rw[a2d r.length _ _ (by simp;omega) (dP _)]
theorem IE{s:Bs}{i}(h:i<s.length):runes (s.drop i)=(aI ⟨s.toArray⟩ i).1::runes (s.drop (i+(aI ⟨s.toArray⟩ i).2)):=by
 have h1:=bM ⟨s.toArray⟩ i;simp only at h1;rw[←h1,zU (by simp;omega),List.drop_drop]
theorem DT{s:Bs}{i}(h:s.length≤i):runes (s.drop i)=[]:=by rw[cZ h];rfl
theorem decode_le(s:Bs) i:(aI ⟨s.toArray⟩ i).1≤1114111:=by
 rw[←bM ⟨s.toArray⟩ i];exact dH _
theorem wM(s:Bs){i}(h:i<s.length):1≤(aI ⟨s.toArray⟩ i).2∧i+(aI ⟨s.toArray⟩ i).2≤s.length:=by
 have h1:decodeL (s.drop i)=aI ⟨s.toArray⟩ i:=bM ⟨s.toArray⟩ i;rw[←h1];refine⟨aT _,?_⟩;have:=Go.Lib.decodeL_le (s.drop i) (by simp;omega);simp only[dR]at this;omega
theorem a3G:∀(f:Nat) (s:Bs),∀c∈wO f s,c≤1114111
 |0,_,c,h=>by cases h
 |_+1,[],c,h=>by cases h
 |f+1,d::r,c,h=>by
  simp only[wO,aW]at h;rcases h with rfl|h
  ·exact dH _
  exact a3G f _ c h
theorem DN:∀(f:Nat) (s:Bs),(wO f s).length≤s.length
 |0,_=>bQ _
 |_+1,[]=>dP _
 |f+1,d::r=>by
  have A:=aT (d::r);have:=DN f ((d::r).drop (decodeL (d::r)).2);simp only[wO,aH];simp only[dR,aH]at this;omega
def enc (c:Nat):Bs:=
 if c<128 then[aB c]else if c<2048 then[aB (192+c / 64),aB (128+c % 64)]
 else if c<65536 then[aB (224+c / 4096),aB (128+c / 64 % 64),aB (128+c % 64)]
 else[aB (240+c / 262144),aB (128+c / 4096 % 64),aB (128+c / 64 % 64),aB (128+c % 64)]
def wK (c:Nat):Prop:=c<55296∨(57344≤c∧c<65536)
theorem b1O{c}(h:wK c):dG (c:Int)=true:=by
 unfold wK at h;unfold dG;simp only[Bool.or_eq_true,dS,zG];omega
theorem b0r{c:Nat}(A:dG (c:Int)=true):(aN (c:Int)).data.toList=(if c<128 then(⟨#[aB c]⟩:ByteArray)else if c<2048 then⟨#[aB (192+c / 64),aB (128+c % 64)]⟩else if c<65536 then⟨#[aB (224+c / 4096),aB (128+c / 64 % 64),aB (128+c % 64)]⟩
 else⟨#[aB (240+c / 262144),aB (128+c / 4096 % 64),aB (128+c / 64 % 64),aB (128+c % 64)]⟩).data.toList:=by simp_all[aN,Int.toNat_natCast]
theorem qM{c}(h:wK c):(aN (c:Int)).data.toList=enc c:=by
 rw[b0r (b1O h)];unfold enc
 by_cases h1:c<128
 ·rw[zF h1,zF h1]
 rw[zD h1,zD h1]
 by_cases h2:c<2048
 ·rw[zF h2,zF h2]
 rw[zD h2,zD h2]
 by_cases h3:c<65536
 ·rw[zF h3,zF h3]
 rw[zD h3,zD h3]
def rows:List (Bs×Bs):=[
 ([97],[195,160,195,161,195,162,195,163,195,164,195,165,196,129,196,131,196,133,195,128,195,129,195,130,195,131,195,132,195,133,196,128,196,130,196,132]),
 ([99],[195,167,196,135,196,137,196,139,196,141,195,135,196,134,196,136,196,138,196,140]),
 ([100],[196,143,196,145,195,176,196,142,196,144,195,144]),
 ([101],[195,168,195,169,195,170,195,171,196,147,196,149,196,151,196,153,196,155,195,136,195,137,195,138,195,139,196,146,196,148,196,150,196,152,196,154]),
 ([103],[196,157,196,159,196,161,196,163,196,156,196,158,196,160,196,162]),
 ([104],[196,165,196,167,196,164,196,166]),
 ([105],[195,172,195,173,195,174,195,175,196,169,196,171,196,173,196,175,196,177,195,140,195,141,195,142,195,143,196,168,196,170,196,172,196,174,196,176]),
 ([106],[196,181,196,180]),
 ([107],[196,183,196,182]),
 ([108],[196,186,196,188,196,190,197,130,196,185,196,187,196,189,197,129]),
 ([110],[195,177,197,132,197,134,197,136,195,145,197,131,197,133,197,135]),
 ([111],[195,178,195,179,195,180,195,181,195,182,195,184,197,141,197,143,197,145,198,161,195,146,195,147,195,148,195,149,195,150,195,152,197,140,197,142,197,144,198,160]),
 ([114],[197,149,197,151,197,153,197,148,197,150,197,152]),
 ([115],[197,155,197,157,197,159,197,161,197,154,197,156,197,158,197,160]),
 ([116],[197,163,197,165,197,167,197,162,197,164,197,166]),
 ([117],[195,185,195,186,195,187,195,188,197,169,197,171,197,173,197,175,197,177,197,179,198,176,195,153,195,154,195,155,195,156,197,168,197,170,197,172,197,174,197,176,197,178,198,175]),
 ([119],[197,181,197,180]),
 ([121],[195,189,195,191,197,183,195,157,197,184,197,182]),
 ([122],[197,186,197,188,197,190,197,185,197,187,197,189]),
 ([97,101],[195,166,195,134]),
 ([111,101],[197,147,197,146]),
 ([115,115],[195,159]),
 ([116,104],[195,190,195,158]),
 ([206,177],[206,172,206,134]),
 ([206,181],[206,173,206,136]),
 ([206,183],[206,174,206,137]),
 ([206,185],[206,175,207,138,206,144,206,138,206,170]),
 ([206,191],[207,140,206,140]),
 ([207,133],[207,141,207,139,206,176,206,142,206,171]),
 ([207,137],[207,142,206,143]),
 ([208,181],[209,145,208,129])]
def tab:List (Nat×Bs):=[
 (224,[97]),(225,[97]),(226,[97]),(227,[97]),(228,[97]),(229,[97]),(257,[97]),(259,[97]),(261,[97]),(192,[97]),(193,[97]),(194,[97]),(195,[97]),(196,[97]),(197,[97]),(256,[97]),(258,[97]),(260,[97]),
 (231,[99]),(263,[99]),(265,[99]),(267,[99]),(269,[99]),(199,[99]),(262,[99]),(264,[99]),(266,[99]),(268,[99]),
 (271,[100]),(273,[100]),(240,[100]),(270,[100]),(272,[100]),(208,[100]),
 (232,[101]),(233,[101]),(234,[101]),(235,[101]),(275,[101]),(277,[101]),(279,[101]),(281,[101]),(283,[101]),(200,[101]),(201,[101]),(202,[101]),(203,[101]),(274,[101]),(276,[101]),(278,[101]),(280,[101]),(282,[101]),
 (285,[103]),(287,[103]),(289,[103]),(291,[103]),(284,[103]),(286,[103]),(288,[103]),(290,[103]),
 (293,[104]),(295,[104]),(292,[104]),(294,[104]),
 (236,[105]),(237,[105]),(238,[105]),(239,[105]),(297,[105]),(299,[105]),(301,[105]),(303,[105]),(305,[105]),(204,[105]),(205,[105]),(206,[105]),(207,[105]),(296,[105]),(298,[105]),(300,[105]),(302,[105]),(304,[105]),
 (309,[106]),(308,[106]),
 (311,[107]),(310,[107]),
 (314,[108]),(316,[108]),(318,[108]),(322,[108]),(313,[108]),(315,[108]),(317,[108]),(321,[108]),
 (241,[110]),(324,[110]),(326,[110]),(328,[110]),(209,[110]),(323,[110]),(325,[110]),(327,[110]),
 (242,[111]),(243,[111]),(244,[111]),(245,[111]),(246,[111]),(248,[111]),(333,[111]),(335,[111]),(337,[111]),(417,[111]),(210,[111]),(211,[111]),(212,[111]),(213,[111]),(214,[111]),(216,[111]),(332,[111]),(334,[111]),(336,[111]),(416,[111]),
 (341,[114]),(343,[114]),(345,[114]),(340,[114]),(342,[114]),(344,[114]),
 (347,[115]),(349,[115]),(351,[115]),(353,[115]),(346,[115]),(348,[115]),(350,[115]),(352,[115]),
 (355,[116]),(357,[116]),(359,[116]),(354,[116]),(356,[116]),(358,[116]),
 (249,[117]),(250,[117]),(251,[117]),(252,[117]),(361,[117]),(363,[117]),(365,[117]),(367,[117]),(369,[117]),(371,[117]),(432,[117]),(217,[117]),(218,[117]),(219,[117]),(220,[117]),(360,[117]),(362,[117]),(364,[117]),(366,[117]),(368,[117]),(370,[117]),(431,[117]),
 (373,[119]),(372,[119]),
 (253,[121]),(255,[121]),(375,[121]),(221,[121]),(376,[121]),(374,[121]),
 (378,[122]),(380,[122]),(382,[122]),(377,[122]),(379,[122]),(381,[122]),
 (230,[97,101]),(198,[97,101]),
 (339,[111,101]),(338,[111,101]),
 (223,[115,115]),
 (254,[116,104]),(222,[116,104]),
 (940,[206,177]),(902,[206,177]),
 (941,[206,181]),(904,[206,181]),
 (942,[206,183]),(905,[206,183]),
 (943,[206,185]),(970,[206,185]),(912,[206,185]),(906,[206,185]),(938,[206,185]),
 (972,[206,191]),(908,[206,191]),
 (973,[207,133]),(971,[207,133]),(944,[207,133]),(910,[207,133]),(939,[207,133]),
 (974,[207,137]),(911,[207,137]),
 (1105,[208,181]),(1025,[208,181])]
def char (c:Nat):Bs:=
 if (97≤c∧c≤122)∨(48≤c∧c≤57)then enc c
 else if 65≤c∧c≤90 then enc (c+32)
 else if c<128 then[32]
 else if (768≤c∧c≤879)∨(65056≤c∧c≤65071)then[]
 else match tab.lookup c with
  |some s=>s
  |none=>
   if c=962 then enc 963
   else if (945≤c∧c≤969)∨(1072≤c∧c≤1103)then enc c
   else if ((913≤c∧c≤937)∧c≠930)∨(1040≤c∧c≤1071)then enc (c+32)
   else[32]
def pX:List (Bs×Bs)→List (Nat×Bs)
 |[]=>[]
 |(a,b)::r=>(runes b).map (·,a)++pX r
theorem ZH:pX rows=tab:=kR
theorem a1v:(tab.map (·.1)).Nodup:=by decide +kernel
def wf (w:Bs):List Nat→List Bs
 |[]=>if w=[]then[]else[w]
 |c::r=>if char c=[32]then(if w=[]then wf [] r else w::wf [] r)else wf (w++char c) r
def words (s:Bs):List Bs:=wf [] (runes s)
def join:List Bs→Bs
 |[]=>[]
 |[a]=>a
 |a::b::r=>a++[32]++join (b::r)
theorem BL:∀(l:List Nat) (w:Bs),∀x∈wf w l,x≠[]
 |[],w,x,h=>by
  unfold wf at h
  split at h
  ·cases h
  simp at h;subst h;assumption
 |c::r,w,x,h=>by
  unfold wf at h
  split at h
  ·split at h
   ·exact BL r [] x h
   rcases aW.1 h with rfl|h
   ·assumption
   exact BL r [] x h
  exact BL r _ x h
def digit (c:UInt8):Bool:=48≤c && c≤57
def digits (s:Bs):Bool:=s.all digit
def strip (s:Bs):Bs:=(s.dropLast.dropWhile (· == 48))++s.drop (s.length-1)
def number (s:Bs):Bs:=
 let t:=strip s
 let n:=min t.length 99
 [aB (48+n / 10),aB (48+n % 10)]++t
def pO (w:Bs):Bs:=if digits w then number w else w
def cut (s:Bs) (skip:Int):Bs:=s.drop (min (max skip 0) s.length).toNat
def nT (s:Bs) (skip:Int):Bs:=join ((words (cut s skip)).map pO)
end Ke
namespace Ke
def okb (c:UInt8):Bool:=digit c || c == 88 || c == 120 || c == 32 || c == 45
def nb (c:UInt8):Bool:= !(c == 32 || c == 45)
def up (c:UInt8):UInt8:=if c=120 then 88 else c
def norm (s:Bs):Bs:=((s.takeWhile okb).filter nb).map up
def NG:Nat→Bs→Nat
 |_,[]=>0
 |k,c::r=>(c.toNat-48)*(1+2*(k % 2))+NG (k+1) r
def check (s:Bs):UInt8:=aB (48+(10-NG 0 (s.take 12) % 10) % 10)
def val (c:UInt8):Nat:=if c=88 then 10 else c.toNat-48
def FX:Nat→Bs→Nat
 |_,[]=>0
 |k,c::r=>(10-k)*val c+FX (k+1) r
def OT (s:Bs):Bool:=FX 0 s % 11 == 0 && digits (s.take 9)
def a2I (t:Bs):Bs×Bool:=
 if t.length=10∧OT t=true then([57,55,56]++t.take 9++[check ([57,55,56]++t.take 9)],true)
 else if t.length=13∧digits t=true∧check t=t.getD 12 0 then(t,true)
 else([],false)
def ED (s:Bs):Bs×Bool:=a2I (norm s)
theorem NI{p:UInt8→Prop}(h:∀n<256,p (aB n)) c:p c:=by grind [c.toNat_lt,UInt8.ofNat_toNat]
theorem DK{c}:digit c=true↔48≤c.toNat∧c.toNat≤57:=by
 simp[digit,UInt8.le_iff_toNat_le]
theorem digit_ok{c}(h:digit c=true):okb c=true∧nb c=true∧up c=c:=by
 revert h;exact NI (p:=fun c=>digit c=true→okb c=true∧nb c=true∧up c=c) (by decide +kernel) c
theorem VE{c r}:digits (c::r)=(digit c && digits r):=rfl
theorem NZ{a b}:digits (a++b)=(digits a && digits b):=by simp[digits,List.all_append]
theorem a3r:∀{s:Bs},(∀c∈s,up c=c)→s.map up=s
 |[],_=>rfl
 |c::r,h=>by rw[aK,h c (.head _),a3r fun d A=>h d (.tail _ A)]
theorem a4C:∀(a b:Bs) (k:Nat),NG k (a++b)=NG k a+NG (k+a.length) b
 |[],b,k=>by simp[NG]
 |c::r,b,k=>by
  simp only[aU,NG,aH,a4C r b (k+1)];rw[show k+1+r.length=k+(r.length+1) by omega];omega
theorem a4q:∀(a b:Bs) (k:Nat),FX k (a++b)=FX k a+FX (k+a.length) b
 |[],b,k=>by simp[FX]
 |c::r,b,k=>by
  simp only[aU,FX,aH,a4q r b (k+1)];rw[show k+1+r.length=k+(r.length+1) by omega];omega
theorem a7q{s}(h:digits s=true):s.map up=s:=a3r fun c A=>(digit_ok (List.all_eq_true.1 h c A)).2.2
end Ke
section
namespace Ke
def rep (s:Bs):Bs:=s.filter nb
theorem b6U c:nb c= !(c == 32 || c == 45):=rfl
end Ke
namespace Go.Sx
def buf (E:List UInt8) (n:Nat):List Value:=mQ E++dA (n-E.length) (.int .u8 0)
theorem b5d n:buf [] n=dA n (.int .u8 0):=by simp[buf,mQ]
theorem a6P{E n}(h:E.length≤n):(buf E n).length=n:=by simp[buf,mQ];omega
theorem b4j{E X n}(h:E.length+X.length≤n):oD (buf E n) E.length (mQ X) (buf (E++X) n):=by
 have A:(mQ X).length=X.length:=wX X;have G:(mQ E).length=E.length:=wX E;refine⟨by rw[a6P oM,A];exact h,?_⟩;unfold buf;rw[A,List.take_append_of_le_length oM,aJ oM,List.drop_append,cZ oM,G];simp only[mQ,bY,List.nil_append,dM,List.drop_replicate,aZ]
 congr 2
 congr 1
 omega
theorem b4L{E n} c (h:E.length<n):(buf E n).set E.length (u8 c)=buf (E++[c]) n:=by
 have A:(mQ E).length=E.length:=wX E;unfold buf;rw[List.set_append_right _ _ oM,A,Nat.sub_self];obtain⟨m,G⟩:∃m,n-E.length=m+1:=⟨n-E.length-1,oM⟩;have h2:n-(E++[c]).length=m:=by simp;omega
 rw[G,h2,List.replicate_succ,List.set_cons_zero];simp[mQ]
theorem b3t{E n}(h:n=E.length):buf E n=mQ E++[]:=by
 subst h;simp[buf]
end Go.Sx
end
namespace Go.Proofs
open _root_.Go.Proofs.Tryz
open Go.Shelf
def Tryz.UJ:aF:=⟨fun|158=>196|165=>240|166=>130|167=>241|169=>132|230=>242|203=>243|240=>184|241=>271|197=>272|118=>273|168=>274|270=>275|262=>276|276=>234|277=>299|260=>300|242=>301|313=>302|278=>316|274=>317|275=>318|n=>n,fun|9=>9|4=>4|3=>3|5=>5|72=>204|0=>0|76=>208|75=>207|107=>293|70=>202|20=>20|37=>192|127=>246|21=>21|105=>328|164=>284|162=>351|203=>349|119=>341|46=>188|139=>372|138=>371|51=>238|160=>373|208=>407|206=>405|80=>211|n=>n,fun|13=>2|3=>4|4=>5|n=>n⟩
theorem Tryz.b4W:eY aA Tryz.UJ:={
 mixed:=kR
 f118:=func273.trans (zC some kR)
 f158:=func196.trans (zC some kR)
 f165:=func240.trans (zC some kR)
 f166:=func130.trans (zC some kR)
 f167:=func241.trans (zC some kR)
 f168:=func274.trans (zC some kR)
 f169:=func132.trans (zC some kR)
 f197:=func272.trans (zC some kR)
 f203:=func243.trans (zC some kR)
 f230:=func242.trans (zC some kR)
 f240:=func184.trans (zC some kR)
 f241:=func271.trans (zC some kR)
 f242:=func301.trans (zC some kR)
 f260:=func300.trans (zC some kR)
 f262:=func276.trans (zC some kR)
 f270:=func275.trans (zC some kR)
 f274:=func317.trans (zC some kR)
 f275:=func318.trans (zC some kR)
 f276:=func234.trans (zC some kR)
 f277:=func299.trans (zC some kR)
 f278:=func316.trans (zC some kR)
 f313:=func302.trans (zC some kR)
 t0:=underlying0
 a0:=isAgg0
 z0:=sizeOf0
 v0:=zeroValue0
 t3:=underlying3
 a3:=isAgg3
 z3:=sizeOf3
 v3:=zeroValue3
 t4:=underlying4
 a4:=isAgg4
 z4:=sizeOf4
 v4:=zeroValue4
 t5:=underlying5
 a5:=isAgg5
 z5:=sizeOf5
 v5:=zeroValue5
 t9:=underlying9
 a9:=isAgg9
 z9:=sizeOf9
 v9:=zeroValue9
 t20:=underlying20
 a20:=isAgg20
 z20:=sizeOf20
 v20:=zeroValue20
 t21:=underlying21
 a21:=isAgg21
 z21:=sizeOf21
 v21:=zeroValue21
 t37:=underlying192
 a37:=isAgg192
 z37:=sizeOf192
 v37:=zeroValue192
 t46:=underlying188
 a46:=isAgg188
 z46:=sizeOf188
 v46:=zeroValue188
 t51:=underlying238
 a51:=isAgg238
 z51:=sizeOf238
 v51:=zeroValue238
 t70:=underlying202
 a70:=isAgg202
 z70:=sizeOf202
 v70:=zeroValue202
 t72:=underlying204
 a72:=isAgg204
 z72:=sizeOf204
 v72:=zeroValue204
 t75:=underlying207
 a75:=isAgg207
 z75:=sizeOf207
 v75:=zeroValue207
 t76:=underlying208
 a76:=isAgg208
 z76:=sizeOf208
 v76:=zeroValue208
 t105:=underlying328
 a105:=isAgg328
 z105:=sizeOf328
 v105:=zeroValue328
 t107:=underlying293
 a107:=isAgg293
 z107:=sizeOf293
 v107:=zeroValue293
 t119:=underlying341
 a119:=isAgg341
 z119:=sizeOf341
 t127:=underlying246
 a127:=isAgg246
 z127:=sizeOf246
 v127:=zeroValue246
 t138:=underlying371
 a138:=isAgg371
 z138:=sizeOf371
 v138:=zeroValue371
 t139:=underlying372
 a139:=isAgg372
 z139:=sizeOf372
 v139:=zeroValue372
 t160:=underlying373
 a160:=isAgg373
 z160:=sizeOf373
 v160:=zeroValue373
 t162:=underlying351
 a162:=isAgg351
 z162:=sizeOf351
 v162:=zeroValue351
 t164:=underlying284
 a164:=isAgg284
 z164:=sizeOf284
 v164:=zeroValue284
 t203:=underlying349
 a203:=isAgg349
 z203:=sizeOf349
 v203:=zeroValue349
 t206:=underlying405
 a206:=isAgg405
 z206:=sizeOf405
 v206:=zeroValue405
 t208:=underlying407
 a208:=isAgg407
 z208:=sizeOf407
 v208:=zeroValue407
 g3:=kR
 g4:=kR
 g13:=by kernel_rfl }
theorem Tryz.UC:eU aA Tryz.UJ:={
 sizeBuilder:=kR
 liesBuilder:=kR
 t5:=underlying5
 a5:=isAgg5
 z5:=sizeOf5
 v5:=zeroValue5
 infoByte:=kR
 cellsByte:=kR
 sizeByte:=kR
 neB5:=by decide }
open Go.RowKit in
theorem Tryz.strings_ToUpper_ascii s w (G:s.size≤140737488355328)(A:∀(j:Nat) (b:UInt8),s.data.toList[j]?=some b→b.toNat<128):
 Calls aA 196 #[.string s] w fun e w'=>e= .returned (.string ⟨(Lib.toUpperA s.data.toList).toArray⟩)∧Below w.heap.size w w':=Any.strings_ToUpper_ascii Tryz.b4W Tryz.UC s w G A
def Tryz.lays156_ren:aF:=⟨fun|156=>203|165=>240|166=>130|169=>132|240=>184|241=>271|276=>234|277=>299|n=>n,fun|31=>69|9=>9|3=>3|4=>4|0=>0|20=>20|72=>204|76=>208|70=>202|37=>192|75=>207|127=>246|164=>284|5=>5|80=>211|n=>n,fun|n=>n⟩
theorem Tryz.lays156:fA aA Tryz.lays156_ren:={
 mixed:=kR
 f156:=func203.trans (zC some kR)
 f165:=func240.trans (zC some kR)
 f166:=func130.trans (zC some kR)
 f169:=func132.trans (zC some kR)
 f240:=func184.trans (zC some kR)
 f241:=func271.trans (zC some kR)
 f276:=func234.trans (zC some kR)
 f277:=func299.trans (zC some kR)
 t0:=underlying0
 a0:=isAgg0
 z0:=sizeOf0
 v0:=zeroValue0
 t3:=underlying3
 a3:=isAgg3
 z3:=sizeOf3
 v3:=zeroValue3
 t4:=underlying4
 a4:=isAgg4
 z4:=sizeOf4
 v4:=zeroValue4
 t9:=underlying9
 a9:=isAgg9
 z9:=sizeOf9
 v9:=zeroValue9
 t20:=underlying20
 a20:=isAgg20
 z20:=sizeOf20
 v20:=zeroValue20
 t31:=underlying69
 a31:=isAgg69
 z31:=sizeOf69
 v31:=zeroValue69
 t37:=underlying192
 a37:=isAgg192
 z37:=sizeOf192
 v37:=zeroValue192
 t70:=underlying202
 a70:=isAgg202
 z70:=sizeOf202
 v70:=zeroValue202
 t72:=underlying204
 a72:=isAgg204
 z72:=sizeOf204
 v72:=zeroValue204
 t75:=underlying207
 a75:=isAgg207
 z75:=sizeOf207
 v75:=zeroValue207
 t76:=underlying208
 a76:=isAgg208
 z76:=sizeOf208
 v76:=zeroValue208
 t127:=underlying246
 a127:=isAgg246
 z127:=sizeOf246
 v127:=zeroValue246
 t164:=underlying284
 a164:=isAgg284
 z164:=sizeOf284
 v164:=zeroValue284 }
theorem Tryz.Builder_Extra_156:eU aA Tryz.lays156_ren:={
 sizeBuilder:=kR
 liesBuilder:=kR
 t5:=underlying5
 a5:=isAgg5
 z5:=sizeOf5
 v5:=zeroValue5
 infoByte:=kR
 cellsByte:=kR
 sizeByte:=kR
 neB5:=by decide }
open Go.RowKit in
theorem Tryz.strings_Join_none a c A w:
 Calls aA 203 #[.slice a 0 c,.string A] w fun e w'=>e= .returned (.string ⟨#[]⟩)∧w'=w:=Any.strings_Join_none Tryz.lays156 Tryz.Builder_Extra_156 a c A w
open Go.RowKit in
theorem Tryz.strings_Join M o c (xs:List ByteArray) A w (G:∀(j:Nat) x,xs[j]?=some x→w.cell? ⟨M,o+j,none⟩=some (.string x))(Q:M<w.heap.size)(S:xs.length≤140737488355328)(N:xs.length≤c)(O:(Lib.join (xs.map (·.data.toList)) A.data.toList).length≤140737488355328):
 Calls aA 203 #[.slice (some ⟨M,o,none⟩) xs.length c,.string A] w fun e w'=>e= .returned (.string ⟨(Lib.join (xs.map (·.data.toList)) A.data.toList).toArray⟩)∧Below w.heap.size w w':=Any.strings_Join Tryz.lays156 Tryz.Builder_Extra_156 M o c xs A w G Q S N O
def Tryz.a5S:aF:=⟨fun|161=>202|231=>247|227=>248|233=>249|235=>250|228=>283|197=>272|151=>195|260=>300|152=>239|137=>217|119=>268|224=>269|225=>270|217=>260|266=>288|n=>n,fun|9=>9|4=>4|3=>3|5=>5|117=>313|116=>312|0=>0|124=>316|105=>328|21=>21|119=>341|46=>188|139=>372|138=>371|n=>n,fun|3=>4|4=>5|n=>n⟩
theorem Tryz.lays161:fB aA Tryz.a5S:={
 mixed:=kR
 f119:=func268.trans (zC some kR)
 f137:=func217.trans (zC some kR)
 f151:=func195.trans (zC some kR)
 f152:=func239.trans (zC some kR)
 f161:=func202.trans (zC some kR)
 f197:=func272.trans (zC some kR)
 f217:=func260.trans (zC some kR)
 f224:=func269.trans (zC some kR)
 f225:=func270.trans (zC some kR)
 f227:=func248.trans (zC some kR)
 f228:=func283.trans (zC some kR)
 f231:=func247.trans (zC some kR)
 f233:=func249.trans (zC some kR)
 f235:=func250.trans (zC some kR)
 f260:=func300.trans (zC some kR)
 f266:=func288.trans (zC some kR)
 t0:=underlying0
 a0:=isAgg0
 z0:=sizeOf0
 v0:=zeroValue0
 t3:=underlying3
 a3:=isAgg3
 z3:=sizeOf3
 v3:=zeroValue3
 t4:=underlying4
 a4:=isAgg4
 z4:=sizeOf4
 v4:=zeroValue4
 t5:=underlying5
 a5:=isAgg5
 z5:=sizeOf5
 v5:=zeroValue5
 t9:=underlying9
 a9:=isAgg9
 z9:=sizeOf9
 v9:=zeroValue9
 t21:=underlying21
 a21:=isAgg21
 z21:=sizeOf21
 v21:=zeroValue21
 t46:=underlying188
 a46:=isAgg188
 z46:=sizeOf188
 v46:=zeroValue188
 t105:=underlying328
 a105:=isAgg328
 z105:=sizeOf328
 v105:=zeroValue328
 t116:=underlying312
 a116:=isAgg312
 z116:=sizeOf312
 t117:=underlying313
 a117:=isAgg313
 z117:=sizeOf313
 v117:=zeroValue313
 t119:=underlying341
 a119:=isAgg341
 z119:=sizeOf341
 t124:=underlying316
 a124:=isAgg316
 z124:=sizeOf316
 v124:=zeroValue316
 t138:=underlying371
 a138:=isAgg371
 z138:=sizeOf371
 v138:=zeroValue371
 t139:=underlying372
 a139:=isAgg372
 z139:=sizeOf372
 v139:=zeroValue372
 g3:=kR
 g4:=by kernel_rfl }
open Go.RowKit in
theorem Tryz.strings_TrimLeft_one s c (A:c.toNat<128) w:
 Calls aA 202 #[.string s,.string ⟨#[c]⟩] w fun e w'=>e= .returned (.string ⟨(Lib.trimLeftB s.data.toList c).toArray⟩)∧w'=w:=Any.strings_TrimLeft_one Tryz.lays161 s c A w
def Tryz.a5C:aF:=⟨fun|160=>246|232=>280|231=>247|227=>248|234=>281|233=>249|236=>282|235=>250|228=>283|271=>309|151=>195|197=>272|120=>325|152=>239|260=>300|137=>217|119=>268|224=>269|225=>270|217=>260|266=>288|n=>n,fun|9=>9|4=>4|3=>3|5=>5|117=>313|116=>312|0=>0|124=>316|21=>21|105=>328|46=>188|119=>341|139=>372|138=>371|n=>n,fun|3=>4|4=>5|n=>n⟩
theorem Tryz.lays160:fC aA Tryz.a5C:={
 mixed:=kR
 f119:=func268.trans (zC some kR)
 f120:=func325.trans (zC some kR)
 f137:=func217.trans (zC some kR)
 f151:=func195.trans (zC some kR)
 f152:=func239.trans (zC some kR)
 f160:=func246.trans (zC some kR)
 f197:=func272.trans (zC some kR)
 f217:=func260.trans (zC some kR)
 f224:=func269.trans (zC some kR)
 f225:=func270.trans (zC some kR)
 f227:=func248.trans (zC some kR)
 f228:=func283.trans (zC some kR)
 f231:=func247.trans (zC some kR)
 f232:=func280.trans (zC some kR)
 f233:=func249.trans (zC some kR)
 f234:=func281.trans (zC some kR)
 f235:=func250.trans (zC some kR)
 f236:=func282.trans (zC some kR)
 f260:=func300.trans (zC some kR)
 f266:=func288.trans (zC some kR)
 f271:=func309.trans (zC some kR)
 t0:=underlying0
 a0:=isAgg0
 z0:=sizeOf0
 v0:=zeroValue0
 t3:=underlying3
 a3:=isAgg3
 z3:=sizeOf3
 v3:=zeroValue3
 t4:=underlying4
 a4:=isAgg4
 z4:=sizeOf4
 v4:=zeroValue4
 t5:=underlying5
 a5:=isAgg5
 z5:=sizeOf5
 v5:=zeroValue5
 t9:=underlying9
 a9:=isAgg9
 z9:=sizeOf9
 v9:=zeroValue9
 t21:=underlying21
 a21:=isAgg21
 z21:=sizeOf21
 v21:=zeroValue21
 t46:=underlying188
 a46:=isAgg188
 z46:=sizeOf188
 v46:=zeroValue188
 t105:=underlying328
 a105:=isAgg328
 z105:=sizeOf328
 v105:=zeroValue328
 t116:=underlying312
 a116:=isAgg312
 z116:=sizeOf312
 t117:=underlying313
 a117:=isAgg313
 z117:=sizeOf313
 v117:=zeroValue313
 t119:=underlying341
 a119:=isAgg341
 z119:=sizeOf341
 t124:=underlying316
 a124:=isAgg316
 z124:=sizeOf316
 v124:=zeroValue316
 t138:=underlying371
 a138:=isAgg371
 z138:=sizeOf371
 v138:=zeroValue371
 t139:=underlying372
 a139:=isAgg372
 z139:=sizeOf372
 v139:=zeroValue372
 g3:=kR
 g4:=by kernel_rfl }
def Tryz.a5p:aF:=⟨fun|119=>268|n=>n,fun|21=>21|4=>4|n=>n,fun|n=>n⟩
theorem Tryz.lays119:fD aA Tryz.a5p:={
 mixed:=kR
 f119:=func268.trans (zC some kR)
 t4:=underlying4
 a4:=isAgg4
 z4:=sizeOf4
 v4:=zeroValue4
 t21:=underlying21
 a21:=isAgg21
 z21:=sizeOf21
 v21:=zeroValue21 }
theorem Tryz.utf8_ValidRune r w:
 Calls aA 268 #[.int .i32 r] w fun e w'=>e= .returned (.bool (Lib.validRune r))∧w'=w:=Any.utf8_ValidRune Tryz.lays119 r w
def Tryz.a5n:aF:=⟨fun|106=>58|213=>109|265=>172|n=>n,fun|9=>9|3=>3|n=>n,fun|n=>n⟩
theorem Tryz.b4p:fE aA Tryz.a5n:={
 mixed:=kR
 f106:=func58.trans (zC some kR)
 f213:=func109.trans (zC some kR)
 f265:=func172.trans (zC some kR)
 t3:=underlying3
 a3:=isAgg3
 z3:=sizeOf3
 v3:=zeroValue3
 t9:=underlying9
 a9:=isAgg9
 z9:=sizeOf9
 v9:=zeroValue9 }
open Go.RowKit in
theorem Tryz.strings_Compare a b w:
 Calls aA 58 #[.string a,.string b] w fun e w'=>e= .returned (.int .i64 (Lib.compareBytes a.data.toList b.data.toList))∧w'=w:=Any.strings_Compare Tryz.b4p a b w
def Tryz.a5F:aF:=⟨fun|137=>217|217=>260|266=>288|n=>n,fun|9=>9|5=>5|3=>3|n=>n,fun|n=>n⟩
theorem Tryz.lays137:fF aA Tryz.a5F:={
 mixed:=kR
 f137:=func217.trans (zC some kR)
 f217:=func260.trans (zC some kR)
 f266:=func288.trans (zC some kR)
 t3:=underlying3
 a3:=isAgg3
 z3:=sizeOf3
 v3:=zeroValue3
 t5:=underlying5
 a5:=isAgg5
 z5:=sizeOf5
 v5:=zeroValue5
 t9:=underlying9
 a9:=isAgg9
 z9:=sizeOf9
 v9:=zeroValue9 }
open Go.RowKit in
theorem Tryz.strings_IndexByte s c w:
 Calls aA 217 #[.string s,.int .u8 c] w fun e w'=>e= .returned (.int .i64 (aX s.data.toList c.toNat.toUInt8))∧w'=w:=Any.strings_IndexByte Tryz.lays137 s c w
def Tryz.a5P:aF:=⟨fun|122=>59|215=>110|n=>n,fun|3=>3|4=>4|n=>n,fun|n=>n⟩
theorem Tryz.b4n:fG aA Tryz.a5P:={
 mixed:=kR
 f122:=func59.trans (zC some kR)
 f215:=func110.trans (zC some kR)
 t3:=underlying3
 a3:=isAgg3
 z3:=sizeOf3
 v3:=zeroValue3
 t4:=underlying4
 a4:=isAgg4
 z4:=sizeOf4
 v4:=zeroValue4 }
open Go.RowKit in
theorem Tryz.cmp_Compare_int x y w:
 Calls aA 59 #[.int .i64 x,.int .i64 y] w fun e w'=>e= .returned (.int .i64 (Lib.compareInt x y))∧w'=w:=Any.cmp_Compare_int Tryz.b4n x y w
def Tryz.a5x:aF:=⟨fun|219=>298|217=>260|225=>270|224=>269|267=>315|266=>288|314=>330|n=>n,fun|9=>9|3=>3|4=>4|5=>5|46=>188|146=>402|51=>238|n=>n,fun|1=>0|n=>n⟩
theorem Tryz.lays219:fH aA Tryz.a5x:={
 mixed:=kR
 f217:=func260.trans (zC some kR)
 f219:=func298.trans (zC some kR)
 f224:=func269.trans (zC some kR)
 f225:=func270.trans (zC some kR)
 f266:=func288.trans (zC some kR)
 f267:=func315.trans (zC some kR)
 f314:=func330.trans (zC some kR)
 t3:=underlying3
 a3:=isAgg3
 z3:=sizeOf3
 v3:=zeroValue3
 t4:=underlying4
 a4:=isAgg4
 z4:=sizeOf4
 v4:=zeroValue4
 t5:=underlying5
 a5:=isAgg5
 z5:=sizeOf5
 v5:=zeroValue5
 t9:=underlying9
 a9:=isAgg9
 z9:=sizeOf9
 v9:=zeroValue9
 t46:=underlying188
 a46:=isAgg188
 z46:=sizeOf188
 v46:=zeroValue188
 t51:=underlying238
 a51:=isAgg238
 z51:=sizeOf238
 v51:=zeroValue238
 t146:=underlying402
 a146:=isAgg402
 z146:=sizeOf402
 v146:=zeroValue402
 g1:=by kernel_rfl }
open Go.RowKit Go.Lib in
theorem Tryz.stringslite_Index_one s c w:
 Calls aA 298 #[.string s,.string ⟨#[c]⟩] w fun e w'=>e= .returned (.int .i64 (aX s.data.toList c))∧w'=w:=Any.stringslite_Index_one Tryz.lays219 s c w
def Tryz.a5w:aF:=⟨fun|138=>373|195=>374|218=>375|143=>376|219=>298|217=>260|225=>270|224=>269|267=>315|266=>288|314=>330|n=>n,fun|9=>9|3=>3|4=>4|5=>5|0=>0|46=>188|146=>402|51=>238|n=>n,fun|1=>0|n=>n⟩
theorem Tryz.lays138:fJ aA Tryz.a5w:={
 mixed:=kR
 f138:=func373.trans (zC some kR)
 f143:=func376.trans (zC some kR)
 f195:=func374.trans (zC some kR)
 f217:=func260.trans (zC some kR)
 f218:=func375.trans (zC some kR)
 f219:=func298.trans (zC some kR)
 f224:=func269.trans (zC some kR)
 f225:=func270.trans (zC some kR)
 f266:=func288.trans (zC some kR)
 f267:=func315.trans (zC some kR)
 f314:=func330.trans (zC some kR)
 t0:=underlying0
 a0:=isAgg0
 z0:=sizeOf0
 v0:=zeroValue0
 t3:=underlying3
 a3:=isAgg3
 z3:=sizeOf3
 v3:=zeroValue3
 t4:=underlying4
 a4:=isAgg4
 z4:=sizeOf4
 v4:=zeroValue4
 t5:=underlying5
 a5:=isAgg5
 z5:=sizeOf5
 v5:=zeroValue5
 t9:=underlying9
 a9:=isAgg9
 z9:=sizeOf9
 v9:=zeroValue9
 t46:=underlying188
 a46:=isAgg188
 z46:=sizeOf188
 v46:=zeroValue188
 t51:=underlying238
 a51:=isAgg238
 z51:=sizeOf238
 v51:=zeroValue238
 t146:=underlying402
 a146:=isAgg402
 z146:=sizeOf402
 v146:=zeroValue402
 g1:=by kernel_rfl }
open Go.RowKit Go.Lib in
theorem Tryz.strings_Count_one s c w:
 Calls aA 373 #[.string s,.string ⟨#[c]⟩] w fun e w'=>e= .returned (.int .i64 (Lib.countByte s.data.toList c))∧w'=w:=Any.strings_Count_one Tryz.lays138 s c w
def Tryz.lays157_ren:aF:=⟨fun|157=>261|229=>256|199=>289|261=>311|311=>327|312=>328|n=>n,fun|9=>9|31=>69|3=>3|5=>5|4=>4|119=>341|0=>0|40=>254|152=>338|21=>21|154=>340|51=>238|141=>367|196=>393|193=>390|198=>396|49=>394|194=>391|201=>399|226=>417|46=>188|227=>418|n=>n,fun|0=>1|6=>3|n=>n⟩
theorem Tryz.lays157:fK aA Tryz.lays157_ren:={
 mixed:=kR
 f157:=func261.trans (zC some kR)
 f199:=func289.trans (zC some kR)
 f229:=func256.trans (zC some kR)
 f261:=func311.trans (zC some kR)
 f311:=func327.trans (zC some kR)
 f312:=func328.trans (zC some kR)
 t0:=underlying0
 a0:=isAgg0
 z0:=sizeOf0
 v0:=zeroValue0
 t3:=underlying3
 a3:=isAgg3
 z3:=sizeOf3
 v3:=zeroValue3
 t4:=underlying4
 a4:=isAgg4
 z4:=sizeOf4
 v4:=zeroValue4
 t5:=underlying5
 a5:=isAgg5
 z5:=sizeOf5
 v5:=zeroValue5
 t9:=underlying9
 a9:=isAgg9
 z9:=sizeOf9
 v9:=zeroValue9
 t21:=underlying21
 a21:=isAgg21
 z21:=sizeOf21
 v21:=zeroValue21
 t31:=underlying69
 a31:=isAgg69
 z31:=sizeOf69
 v31:=zeroValue69
 t40:=underlying254
 a40:=isAgg254
 z40:=sizeOf254
 v40:=zeroValue254
 t46:=underlying188
 a46:=isAgg188
 z46:=sizeOf188
 v46:=zeroValue188
 t49:=underlying394
 a49:=isAgg394
 z49:=sizeOf394
 v49:=zeroValue394
 t51:=underlying238
 a51:=isAgg238
 z51:=sizeOf238
 v51:=zeroValue238
 t119:=underlying341
 a119:=isAgg341
 z119:=sizeOf341
 t141:=underlying367
 a141:=isAgg367
 z141:=sizeOf367
 v141:=zeroValue367
 t152:=underlying338
 a152:=isAgg338
 z152:=sizeOf338
 v152:=zeroValue338
 t154:=underlying340
 a154:=isAgg340
 z154:=sizeOf340
 v154:=zeroValue340
 t193:=underlying390
 a193:=isAgg390
 z193:=sizeOf390
 v193:=zeroValue390
 t194:=underlying391
 a194:=isAgg391
 z194:=sizeOf391
 v194:=zeroValue391
 t196:=underlying393
 a196:=isAgg393
 z196:=sizeOf393
 v196:=zeroValue393
 t198:=underlying396
 a198:=isAgg396
 z198:=sizeOf396
 v198:=zeroValue396
 t201:=underlying399
 a201:=isAgg399
 z201:=sizeOf399
 v201:=zeroValue399
 t226:=underlying417
 a226:=isAgg417
 z226:=sizeOf417
 v226:=zeroValue417
 t227:=underlying418
 a227:=isAgg418
 z227:=sizeOf418
 v227:=zeroValue418
 g0:=kR
 g6:=by kernel_rfl }
def Tryz.lays151_ren:aF:=⟨fun|151=>195|152=>239|137=>217|119=>268|224=>269|225=>270|217=>260|266=>288|n=>n,fun|9=>9|21=>21|4=>4|3=>3|5=>5|0=>0|46=>188|n=>n,fun|n=>n⟩
theorem Tryz.lays151:fM aA Tryz.lays151_ren:={
 mixed:=kR
 f119:=func268.trans (zC some kR)
 f137:=func217.trans (zC some kR)
 f151:=func195.trans (zC some kR)
 f152:=func239.trans (zC some kR)
 f217:=func260.trans (zC some kR)
 f224:=func269.trans (zC some kR)
 f225:=func270.trans (zC some kR)
 f266:=func288.trans (zC some kR)
 t0:=underlying0
 a0:=isAgg0
 z0:=sizeOf0
 v0:=zeroValue0
 t3:=underlying3
 a3:=isAgg3
 z3:=sizeOf3
 v3:=zeroValue3
 t4:=underlying4
 a4:=isAgg4
 z4:=sizeOf4
 v4:=zeroValue4
 t5:=underlying5
 a5:=isAgg5
 z5:=sizeOf5
 v5:=zeroValue5
 t9:=underlying9
 a9:=isAgg9
 z9:=sizeOf9
 v9:=zeroValue9
 t21:=underlying21
 a21:=isAgg21
 z21:=sizeOf21
 v21:=zeroValue21
 t46:=underlying188
 a46:=isAgg188
 z46:=sizeOf188
 v46:=zeroValue188 }
open Go.RowKit Go.Lib in
theorem Tryz.strings_ContainsRune_ascii s r w (h0:0≤r)(h1:r<128):
 Calls aA 195 #[.string s,.int .i32 r] w fun e w'=>e= .returned (.bool (decide (0≤aX s.data.toList r.toNat.toUInt8)))∧w'=w:=Any.strings_ContainsRune_ascii Tryz.lays151 s r w h0 h1
open Go.RowKit Go.Lib in
theorem Tryz.strings_Fields_any s w (M:s.size<4294967281)(G:Lib.TabIs aA w "strings.asciiSpace" .u8 Lib.asciiSpaceTab)(N:Lib.WhiteTab 3 w):
 Calls aA 261 #[.string s] w fun e w'=>∃A,e= .returned (.slice (some ⟨A,0,none⟩) (bI s.data.toList).length (bI s.data.toList).length)∧w.heap.size≤A∧
  w'.ownsRow w.heap.size 9 1 (.slice (some ⟨A,0,none⟩) (bI s.data.toList).length (bI s.data.toList).length) (bI s.data.toList).length ((bI s.data.toList).map fun x=>eX ⟨x.toArray⟩)∧Below w.heap.size w w':=Any.strings_Fields_any Tryz.lays157 kR kR kR s w M G N
def Tryz.a5G:aF:=⟨fun|229=>256|n=>n,fun|9=>9|40=>254|31=>69|152=>338|3=>3|0=>0|4=>4|21=>21|154=>340|n=>n,fun|n=>n⟩
theorem Tryz.b5u:fO aA Tryz.a5G:={
 mixed:=kR
 f229:=func256.trans (zC some kR)
 t0:=underlying0
 a0:=isAgg0
 z0:=sizeOf0
 v0:=zeroValue0
 t3:=underlying3
 a3:=isAgg3
 z3:=sizeOf3
 v3:=zeroValue3
 t4:=underlying4
 a4:=isAgg4
 z4:=sizeOf4
 v4:=zeroValue4
 t9:=underlying9
 a9:=isAgg9
 z9:=sizeOf9
 v9:=zeroValue9
 t21:=underlying21
 a21:=isAgg21
 z21:=sizeOf21
 v21:=zeroValue21
 t31:=underlying69
 a31:=isAgg69
 z31:=sizeOf69
 v31:=zeroValue69
 t40:=underlying254
 a40:=isAgg254
 z40:=sizeOf254
 v40:=zeroValue254
 t152:=underlying338
 a152:=isAgg338
 z152:=sizeOf338
 v152:=zeroValue338
 t154:=underlying340
 a154:=isAgg340
 z154:=sizeOf340
 v154:=zeroValue340 }
open Go.RowKit Go.Lib in
theorem Tryz.strings_FieldsFunc_grows g lb (eg:∀args w,(callFunc g args).run aA w= .ok (.enter g args) w) p s w (G:s.size≤4294967296)(M:PredGrows aA g lb p w):
 Calls aA 256 #[.string s,.func (.func g) #[] lb] w fun e w'=>∃A,e= .returned (.slice (some ⟨A,0,none⟩) (aY p s).length (aY p s).length)∧w.heap.size≤A∧
  w'.ownsRow w.heap.size 9 1 (.slice (some ⟨A,0,none⟩) (aY p s).length (aY p s).length) (aY p s).length ((aY p s).map eX)∧Below w.heap.size w w':=Any.strings_FieldsFunc_grows Tryz.b5u g lb eg p s w G M kR kR
def Tryz.lays110_ren:aF:=⟨fun|110=>116|109=>179|n=>n,fun|31=>69|9=>9|4=>4|3=>3|0=>0|n=>n,fun|n=>n⟩
theorem Tryz.lays110:fP aA Tryz.lays110_ren:={
 mixed:=kR
 f109:=func179.trans (zC some kR)
 f110:=func116.trans (zC some kR)
 t0:=underlying0
 a0:=isAgg0
 z0:=sizeOf0
 v0:=zeroValue0
 t3:=underlying3
 a3:=isAgg3
 z3:=sizeOf3
 v3:=zeroValue3
 t4:=underlying4
 a4:=isAgg4
 z4:=sizeOf4
 v4:=zeroValue4
 t9:=underlying9
 a9:=isAgg9
 z9:=sizeOf9
 v9:=zeroValue9
 t31:=underlying69
 a31:=isAgg69
 z31:=sizeOf69
 v31:=zeroValue69 }
open Go.Lib in
theorem Tryz.slices_Contains_string b off n c (zs:List ByteArray) x w (G:n≤zs.length)(A:n≤9223372036854775807)(M:∀j,j<zs.length→w.cell? ⟨b,off+j,none⟩=some (.string (zs.getD j ByteArray.empty))):
 Calls aA 116 #[.slice (some ⟨b,off,none⟩) n c,.string x] w fun e w'=>e= .returned (.bool (Lib.containsS (zs.take n) x))∧w'=w:=Any.slices_Contains_string Tryz.lays110 b off n c zs x w G A M
end Go.Proofs
section
namespace Go.Sx
theorem b4t l:(mQ l).all eG=true:=by simp[mQ,u8,eG]
theorem b2R x sp:(mQ x++sp).take (x.length*1)=mQ x:=by rw[dQ,←wX x];exact List.take_left
end Go.Sx
namespace Go.Proofs.YtekmeaoblpfnpaaGreatDoor
open Go Go.Sx
theorem ZU{G o e}{S:World→Prop}{x y}{T E b off n c sz j:Nat}{kl}(M:o.op= .slice T x (some y) none none)(N:ev e x=some (.slice (some ⟨b,off,Option.none⟩) n c))(O:ev e y=some (.int kl (j:Int)))(Q:G.P.underlying T=some (.slice E))(A:∀w,(sizeOf E).run G.P w= .ok sz w)(Z:j≤n)(hc:j≤c):
 kX G o e S (.slice (some ⟨b,if c=j then off else off+j*sz,none⟩) (n-j) (c-j)):=by
 by_cases h:c=j
 ·intro a w W _;have h1:(j:Int)≤n:=oM;simp[execOp,M,W.eval N,W.eval O,Instr.sliceAt,Instr.slice,run_underlying Q,Instr.sliceBounds,run_sliceBound,h1,A,h]
 rw[zD h];exact a4z M N O Q A Z oM
theorem oD.none{α:Type}{l:List α}{i}(h:i≤l.length):oD l i [] l:=⟨by simpa using h,sI⟩
theorem b6e{E x n}(h:E.length+x.length≤n):oD (buf E n) (if n=E.length then 0 else 0+E.length*1) (mQ x) (buf (E++x) n):=by
 by_cases hc:n=E.length
 ·have:x=[]:=bH.1 oM;subst this;rw[zF hc,bZ];exact oD.none (bQ _)
 rw[zD hc,Nat.zero_add,dQ];exact b4j h
theorem b0Z s c I:Pure aA 373 [str s,str [c]] I (i64 (s.count c)):=
 Pure.of_same (cO Tryz.func373 dE rfl) fun w _=>by
  have h:=Tryz.strings_Count_one ⟨s.toArray⟩ c w;rw[uP]at h;exact h
end Go.Proofs.YtekmeaoblpfnpaaGreatDoor
end
namespace Rp
abbrev Tb:=UInt8→Option (List UInt8)
def one (r:Tb) (c:UInt8):List UInt8:=(r c).getD [c]
def rep (r:Tb) (s:List UInt8):List UInt8:=s.flatMap (one r)
def two (a:UInt8) (x:List UInt8) (b:UInt8) (y:List UInt8):Tb:=fun c=>if c=a then some x else if c=b then some y else none
def w (r:Tb) (c:UInt8):Int:=(one r c).length-1
def gain (r:Tb) (s:List UInt8):Int:=(s.map (w r)).sum
def hits (r:Tb) (s:List UInt8):Nat:=s.countP fun c=>(r c).isSome
theorem WB r s:((rep r s).length:Int)=s.length+gain r s:=by
 induction s with
 |nil=>rfl
 |cons c s A=>
  have h1:(rep r (c::s)).length=(one r c).length+(rep r s).length:=by simp[rep]
  have h2:gain r (c::s)=w r c+gain r s:=by simp[gain]
  rw[h1,h2,aH];unfold w;omega
theorem a5a{r}:∀{s:List UInt8},hits r s=0→rep r s=s
 |[],_=>rfl
 |c::s,h=>by
  unfold hits at h;rw[dU]at h;have A:r c=none:=by
   cases hr:r c with
   |none=>rfl
   |some x=>rw[hr]at h;simp at h
  have:=a5a (r:=r) (s:=s) (by unfold hits;omega);show one r c++rep r s=c::s;rw[this];unfold one;rw[A];rfl
theorem sZ{s:List UInt8}{k c}(h:s[k]?=some c):s.take (k+1)=s.take k++[c]:=by
 rw[List.take_add_one,h];rfl
theorem b2P r {s:List UInt8}{k c}(h:s[k]?=some c):rep r (s.take (k+1))=rep r (s.take k)++one r c:=by
 rw[sZ h];simp[rep]
theorem a8K r {s:List UInt8}{k c}(h:s[k]?=some c):gain r (s.take (k+1))=gain r (s.take k)+w r c:=by
 rw[sZ h];simp[gain]
theorem b0j r {s:List UInt8}{k c}(h:s[k]?=some c):hits r (s.take (k+1))=hits r (s.take k)+if (r c).isSome then 1 else 0:=by
 rw[sZ h];simp[hits,List.countP_append,dU]
theorem a4J r s k:(rep r (s.take k)).length≤(rep r s).length:=by
 have h:rep r s=rep r (s.take k)++rep r (s.drop k):=by
  unfold rep;rw[←List.flatMap_append,dB]
 rw[h,aZ];omega
def Two (r:Tb):Prop:=∀c x,r c=some x→x.length≤2
theorem a7C{r}(h:Two r) c: -1≤w r c∧w r c≤1:=by
 unfold w one;cases hr:r c with
 |none=>simp
 |some x=>have:=h c x hr;simp;omega
theorem VR{r}(h:Two r):∀s:List UInt8,-(s.length:Int)≤gain r s∧gain r s≤s.length
 |[]=>by simp[gain]
 |c::s=>by
  have h1:=VR h s;have h2:=a7C h c;simp only[gain,aK,bU,aH]at h1 ⊢;omega
def cg (r:Tb) (s:List UInt8) (ks:List UInt8):Int:=(ks.map fun k=>(s.count k:Int)*w r k).sum
def cn (s:List UInt8) (ks:List UInt8):Nat:=(ks.map fun k=>s.count k).sum
theorem b3S r s {ks:List UInt8}{i k}(h:ks[i]?=some k):cg r s (ks.take (i+1))=cg r s (ks.take i)+s.count k*w r k:=by
 rw[sZ h];simp[cg]
theorem b4a s {ks:List UInt8}{i k}(h:ks[i]?=some k):cn s (ks.take (i+1))=cn s (ks.take i)+s.count k:=by
 rw[sZ h];simp[cn]
theorem a6n r c s:∀(ks:List UInt8),ks.Nodup→cg r (c::s) ks=cg r s ks+if c∈ks then w r c else 0
 |[],_=>by simp[cg]
 |k::ks,h=>by
  obtain⟨h1,h2⟩:=List.nodup_cons.1 h;have A:=a6n r c s ks h2;simp only[cg,aK,bU,List.count_cons]at A ⊢
  by_cases hk:c=k
  ·subst hk;rw[zD h1]at A;simp only[beq_self_eq_true,if_true,aW,true_or];rw[A]
   push_cast
   rw[Int.add_mul];omega
  have G:(c == k)=false:=by simpa using hk
  simp only[G,aW,hk,false_or];rw[A];simp;omega
theorem b0D{r ks}(A:ks.Nodup)(G:∀c,c∈ks↔(r c).isSome=true):∀s:List UInt8,cg r s ks=gain r s
 |[]=>by
  have h:∀l:List UInt8,(l.map fun k=>(([]:List UInt8).count k:Int)*w r k).sum=0:=fun l=>by
   induction l with
   |nil=>rfl
   |cons k l M=>rw[aK,bU,M];simp
  exact h ks
 |c::s=>by
  rw[a6n r c s ks A,b0D A G s];simp only[gain,aK,bU]
  by_cases h:c∈ks
  ·rw[zF h];omega
  rw[zD h];have:r c=none:=by
   cases hr:r c with
   |none=>rfl
   |some x=>exact absurd ((G c).2 (by rw[hr];rfl)) h
  have N:w r c=0:=by unfold w one;rw[this];rfl
  omega
theorem a8L{r}(h:Two r){s}(A:s.length≤1000000000):∀ks:List UInt8,-(ks.length*1000000000:Int)≤cg r s ks∧cg r s ks≤ks.length*1000000000
 |[]=>by simp[cg]
 |k::ks=>by
  have h1:=a8L h A ks;have h2:=a7C h k;have h3:s.count k≤s.length:=bJ;have G:cg r s (k::ks)=s.count k*w r k+cg r s ks:=by simp[cg]
  have M:w r k= -1∨w r k=0∨w r k=1:=oM;rw[G,aH];rcases M with e|e|e<;>rw[e]<;>omega
theorem mul_two{r}(h:Two r){s:List UInt8}(G:s.length≤1000000000) k: -1000000000≤s.count k*w r k∧s.count k*w r k≤1000000000:=by
 have h2:=a7C h k;have h3:s.count k≤s.length:=bJ;have A:w r k= -1∨w r k=0∨w r k=1:=oM;rcases A with e|e|e<;>rw[e]<;>omega
theorem b5I{r ks}(G:∀c,c∈ks↔(r c).isSome=true){s}(h:cn s ks=0):hits r s=0:=by
 have h0:∀k∈ks,s.count k=0:=by
  intro k A;unfold cn at h;exact List.sum_eq_zero_iff_forall_eq_nat.1 h _ (List.mem_map_of_mem A)
 unfold hits;rw[List.countP_eq_zero];intro c M N;have:=h0 c ((G c).2 N);rw[List.count_eq_zero]at this;exact this M
end Rp
section
namespace Go.Proofs.YtekmeaoblpfnpaaGreatDoor
open _root_.Go.Proofs.Tryz
open Go Go.Sx
def VOf (I:Heap) (o:Option (List UInt8)) (v:Value):Prop:=(o=none∧v= .slice none 0 0)∨∃x,o=some x∧TJ I x v
theorem VOf.mono{I A o v}(h:VOf I o v)(G:Le I A):VOf A o v:=h.imp id fun⟨x,h1,h2⟩=>⟨x,h1,h2.mono G⟩
def YR (r:Rp.Tb) (I:Heap) (xb:Nat):Prop:=∃(V:Nat→Value) (tr:Value) (ks:List UInt8),I xb=some (jM 364 (tab V tr))∧qR 9 I (ks.map fun k=>[k]) tr∧ks.Nodup∧(∀c,c∈ks↔(r c).isSome=true)∧ks.length≤256∧Rp.Two r∧∀c:UInt8,VOf I (r c) (V c.toNat)
theorem YR.mono{r I G M}(h:YR r I M)(A:Le I G):YR r G M:=let ⟨V,tr,ks,h1,h2,h3,N,O,Q,S⟩:=h;⟨V,tr,ks,A _ _ h1,h2.mono A,h3,N,O,Q,fun c=>(S c).mono A⟩
theorem b2Y r xb s (hs:s.length≤1000000000) I (hb:YR r I xb):Pure aA 371 [ptr xb 0,str s] I (str (Rp.rep r s)):=by
 refine jO.toPure ?_;obtain⟨V,tr,ks,N,⟨tb,tc,_,rfl,ai⟩,aj,a2,al,Q,hV⟩:=hb;rw[List.length_map]at N;have av:=Rp.VR Q s;have aw:=Rp.WB r s;refine jU func371 fun w0 _=>?_;refine jL 17 ?_;refine Cj.join (ι:=Bool) (fun y=>y=false→Rp.rep r s=s) (fun y=>[(0,ptr xb 0),(1,str s),(5,i64 ((Rp.rep r s).length:Int)),(6,.bool y)]) (fun y=>I) (fun y=>[]) ?_ (fun a3=>?_)
 ·intro y hy;refine mW ?_ ?_<;>intro a6
  ·refine kM ?_;rw[hy (by have h:=a6;simpa using h)];exact rT
  refine jL 5 ?_;refine bP rfl (QU (n:=(Rp.rep r s).length) (c:=(Rp.rep r s).length) (by1:=1) (z:=(.int .u8 0)) rfl rfl rfl rfl rfl rP kR rfl oM oM oM ?_);intro b2 _;refine jL 15 ?_;refine Cj.loop (ι:=Nat) (fun j=>j≤s.length) (fun j=>s.length-j) (fun j=>[(0,ptr xb 0),(1,str s),(12,.slice (some ⟨b2,0,none⟩) (Rp.rep r s).length (Rp.rep r s).length),(13,i64 ((Rp.rep r (s.take j)).length:Int)),(14,i64 (j:Int))]) (fun j=>I) (fun j=>[(b2,jM 5 (buf (Rp.rep r (s.take j)) (Rp.rep r s).length))]) 0 (bQ _) rT rfl (by rw[List.take_zero];exact zC (fun l=>[(_,jM 5 l)]) (b5d _)) ?_;intro j hj;have am:=Rp.a4J r s j;refine jS ?_ ?_<;>intro an ae
  ·have Z:j<s.length:=oM;obtain⟨c,O⟩:∃c,s[j]?=some c:=⟨_,kW Z⟩;have a7:=Rp.b2P r O;have au:=Rp.a4J r s (j+1);refine jL 8 ?_;refine aO (lH rfl rfl rfl lM oM O) ?_;refine jL 5 ?_;rcases hV c with⟨G,M⟩|⟨x,G,l,cc,sp,fr,M,hl⟩
   ·have A:Rp.one r c=[c]:=by unfold Rp.one;rw[G];rfl
    have hw:Rp.w r c=0:=by unfold Rp.w;rw[A];rfl
    have S:Rp.rep r (s.take (j+1))=Rp.rep r (s.take j)++[c]:=a7.trans (by rw[A]);have a0:(Rp.rep r (s.take (j+1))).length=(Rp.rep r (s.take j)).length+1:=by rw[S,aZ];rfl
    refine jL 4 ?_;refine aO (mD (off':=c.toNat) rfl rfl rfl OI FB oM (by have:=c.toNat_lt;omega) sI) ?_;refine aO (jP rfl rfl FI (bD N) (wR _ _ c.toNat_lt)) ?_;refine J.ev 100 (.slice none 0 0) rfl M ?_;refine kJ ((Rp.rep r (s.take j)).length) ?_;refine bP rfl (tH 0 rfl rfl rfl rfl rfl rfl XW rfl (.inl rfl) (by rw[a6P am];omega) (by rw[b4L _ oM];exact dD) ?_);refine jL 14 ?_;refine bW (j+1) oM oM ⟨rfl,rfl,rfl,by rw[a0];rfl,rfl,trivial⟩ rfl (zC (fun l=>[(_,jM _ (buf l _))]) S)
   have a8:=Q c x G;have A:Rp.one r c=x:=by unfold Rp.one;rw[G];rfl
   have hw:Rp.w r c=(x.length:Int)-1:=by unfold Rp.w;rw[A]
   have S:Rp.rep r (s.take (j+1))=Rp.rep r (s.take j)++x:=a7.trans (by rw[A]);have a0:(Rp.rep r (s.take (j+1))).length=(Rp.rep r (s.take j)).length+x.length:=by rw[S,aZ]
   refine jL 4 ?_;refine aO (mD (off':=c.toNat) rfl rfl rfl OI FB oM (by have:=c.toNat_lt;omega) sI) ?_;refine aO (jP rfl rfl FI (bD N) (wR _ _ c.toNat_lt)) ?_;refine J.ev 100 (.slice (some ⟨l,0,none⟩) x.length cc) rfl M ?_;refine jL 4 ?_;refine Cj.qC [] [] 13 kR ?_;refine jL 3 ?_;refine dX 3 rfl (ZU rfl rfl rfl rP XW oM oM) ?_;refine jL 4 ?_;refine dX 8 rfl (mD (off':=c.toNat) rfl rfl rfl OI FB oM (by have:=c.toNat_lt;omega) sI) ?_;refine dX 9 rfl (jP rfl rfl FI (jR.zL N) (wR _ _ c.toNat_lt)) ?_;refine JA.ev 111 (.slice (some ⟨l,0,none⟩) x.length cc) rfl M ?_;refine q0 10 rfl (b5t (m:=x.length) 0 rfl rfl rfl rfl rfl rP XW (eP (ys:=mQ x) (bD hl) (by rw[eH];exact b2R x sp) (by rw[wX,dQ]) (b4t x)) oM rfl (b6e (E:=Rp.rep r (s.take j)) (x:=x) (n:=(Rp.rep r s).length) oM) dD ?_);refine jL 11 ?_;refine bW (j+1) oM oM ⟨rfl,rfl,rfl,by rw[a0];rfl,rfl,trivial⟩ rfl (zC (fun l=>[(_,jM _ (buf l _))]) S)
  have W:s.take j=s:=aJ oM;refine jL 8 ?_;refine aO (uJ (Rp.rep r s) rfl rfl rfl rP lM LV (jR.at 0 rfl) (by rw[W,b3t rfl,bZ];exact aJ (by rw[eH,wX];exact dP _))) ?_;refine kM ?_;exact rT
 refine jL 5 ?_;refine aO (jP rfl rfl a0l (bD N) (ZN _ _)) ?_;refine jS ?_ ?_<;>intro ao af
 ·refine jL 5 ?_;refine aO (jP rfl rfl a0l (bD N) (ZN _ _)) ?_;refine jL 5 ?_;refine Cj.loop (ι:=Nat) (fun i=>i≤ks.length) (fun i=>ks.length-i) (fun i=>[(0,ptr xb 0),(1,str s),(5,i64 ((s.length:Int)+Rp.cg r s (ks.take i))),(6,.bool (decide (0<Rp.cn s (ks.take i)))),(30,.slice (some ⟨tb,0,none⟩) ks.length tc),(31,i64 (ks.length:Int)),(32,i64 (i:Int))]) (fun i=>I) (fun i=>[]) 0 (bQ _) ⟨rfl,rfl,(zC (fun z=>some (aQ .i64 z)) (by simp[Rp.cg])),rfl,rfl,rfl,rfl,trivial⟩ rfl rfl ?_;intro i hi;have ap:=Rp.a8L Q hs (ks.take i);rw[dV,dY hi]at ap;refine jS ?_ ?_<;>intro aq ag
  ·have Z:i<ks.length:=oM;obtain⟨k,hk⟩:∃k,ks[i]?=some k:=⟨_,kW Z⟩;have a9:=Rp.b3S r s hk;have aa:=Rp.b4a s hk;have hm:=Rp.mul_two Q hs k;have al:=k.toNat_lt;have ax:s.count k≤s.length:=bJ;obtain⟨x,ab,l,cc,sp,fr,M,hl⟩:=(hV k).resolve_left fun g=>by have:=(a2 k).1 (lX hk);rw[g.1]at this;cases this
   have a8:=Q k x ab;have hw:Rp.w r k=(x.length:Int)-1:=by unfold Rp.w Rp.one;rw[ab];rfl
   refine kJ i ?_;refine aO (jP rfl rfl lQ (bD ai) (nN (x:=[k]) (by rw[List.getElem?_map,hk];rfl))) ?_;refine kC (b0Z s k _) ?_;refine jS ?_ ?_<;>intro a1 a4
   ·have h0:s.count k≠0:=by have h:=a1;simpa using h
    refine jL 1 ?_;refine Cj.qC [] [] 14 kR ?_;refine jL 4 ?_;refine dX 4 rfl (lH rfl rfl rfl lM dE rfl) ?_;refine jL 2 ?_;refine dX 7 rfl (mD (off':=k.toNat) rfl rfl rfl OI FB oM (by have:=k.toNat_lt;omega) sI) ?_;refine dX 8 rfl (jP rfl rfl FI (jR.zL N) (wR _ _ k.toNat_lt)) ?_;refine JA.ev 49 (.slice (some ⟨l,0,none⟩) x.length cc) rfl M ?_;refine jL 2 ?_;refine JA.ev 51 (i64 (Rp.w r k)) rfl (zC i64 hw.symm) ?_;refine jL 14 ?_;refine bW (i+1) oM oM ⟨rfl,rfl,(zC (fun z=>some (aQ .i64 z)) (by rw[a9];omega)),(zC (fun z=>some (bK z)) (by rw[aa];exact(zH oM).symm)),rfl,rfl,rfl,trivial⟩ rfl rfl
   have h0:s.count k=0:=by have h:=a1;simpa using h
   refine jL 7 ?_;refine bW (i+1) oM oM ⟨rfl,rfl,(zC (fun z=>some (aQ .i64 z)) (by rw[a9,h0];omega)),(zC (fun z=>some (bK z)) (by rw[aa,h0];rfl)),rfl,rfl,rfl,trivial⟩ rfl rfl
  have W:ks.take i=ks:=aJ oM;refine jL 4 ?_;exact a3 (decide (0<Rp.cn s ks)) _ _ _ (fun h=>Rp.a5a (Rp.b5I a2 (by have:=nM h;omega))) ⟨rfl,rfl,(zC (fun z=>some (aQ .i64 z)) (by rw[W,Rp.WB,Rp.b0D aj a2])),(zC (fun l=>some (bK (decide (0<Rp.cn s l)))) W),trivial⟩ rfl rfl
 refine jL 6 ?_;refine Cj.loop (ι:=Nat) (fun j=>j≤s.length) (fun j=>s.length-j) (fun j=>[(0,ptr xb 0),(1,str s),(5,i64 ((s.length:Int)+Rp.gain r (s.take j))),(6,.bool (decide (0<Rp.hits r (s.take j)))),(10,i64 (j:Int))]) (fun j=>I) (fun j=>[]) 0 (bQ _) ⟨rfl,rfl,(zC (fun z=>some (aQ .i64 z)) (by simp[Rp.gain])),rfl,rfl,trivial⟩ rfl rfl ?_;intro j hj;have ar:=Rp.VR Q (s.take j);rw[dV,dY hj]at ar;refine jS ?_ ?_<;>intro ah a5
 ·have Z:j<s.length:=oM;obtain⟨c,O⟩:∃c,s[j]?=some c:=⟨_,kW Z⟩;have ac:=Rp.a8K r O;have ad:=Rp.b0j r O;refine jL 8 ?_;refine aO (lH rfl rfl rfl lM oM O) ?_;refine jL 5 ?_;rcases hV c with⟨G,M⟩|⟨x,G,l,cc,sp,fr,M,hl⟩
  ·have A:Rp.one r c=[c]:=by unfold Rp.one;rw[G];rfl
   have hw:Rp.w r c=0:=by unfold Rp.w;rw[A];rfl
   refine jL 4 ?_;refine aO (mD (off':=c.toNat) rfl rfl rfl OI FB oM (by have:=c.toNat_lt;omega) sI) ?_;refine aO (jP rfl rfl FI (bD N) (wR _ _ c.toNat_lt)) ?_;refine J.ev 69 (.slice none 0 0) rfl M ?_;refine jL 12 ?_;refine bW (j+1) oM oM ⟨rfl,rfl,(zC (fun z=>some (aQ .i64 z)) (by rw[ac,hw];omega)),(zC (fun z=>some (bK z)) (by rw[ad,G];rfl)),rfl,trivial⟩ rfl rfl
  have a8:=Q c x G;have A:Rp.one r c=x:=by unfold Rp.one;rw[G];rfl
  have hw:Rp.w r c=(x.length:Int)-1:=by unfold Rp.w;rw[A]
  refine jL 4 ?_;refine aO (mD (off':=c.toNat) rfl rfl rfl OI FB oM (by have:=c.toNat_lt;omega) sI) ?_;refine aO (jP rfl rfl FI (bD N) (wR _ _ c.toNat_lt)) ?_;refine J.ev 69 (.slice (some ⟨l,0,none⟩) x.length cc) rfl M ?_;refine jL 11 ?_;refine aO (mD (off':=c.toNat) rfl rfl rfl OI FB oM (by have:=c.toNat_lt;omega) sI) ?_;refine aO (jP rfl rfl FI (bD N) (wR _ _ c.toNat_lt)) ?_;refine J.ev 77 (.slice (some ⟨l,0,none⟩) x.length cc) rfl M ?_;refine jL 16 ?_;refine bW (j+1) oM oM ⟨rfl,rfl,(zC (fun z=>some (aQ .i64 z)) (by rw[ac,hw];omega)),(zC (fun z=>some (bK z)) (by rw[ad,G];exact(zH (Nat.succ_pos _)).symm)),rfl,trivial⟩ rfl rfl
 have W:s.take j=s:=aJ oM;refine jL 4 ?_;exact a3 (decide (0<Rp.hits r s)) _ _ _ (fun h=>Rp.a5a (by have:=nM h;omega)) ⟨rfl,rfl,(zC (fun z=>some (aQ .i64 z)) (by rw[W,Rp.WB])),(zC (fun l=>some (bK (decide (0<Rp.hits r l)))) W),trivial⟩ rfl rfl
end Go.Proofs.YtekmeaoblpfnpaaGreatDoor
end
section
namespace Go.Proofs.YtekmeaoblpfnpaaGreatDoor
open _root_.Go.Proofs.Tryz
open Go Go.Sx
theorem _root_.Go.Sx.lS.tr{H H'}{i b T:Nat}{f tr v}(h:lS H i (b,jM T (tab f v)) H'):lS H i (b,.cells ((tab f tr).set 256 v).toArray T) H':=by rw[a9j];exact h
theorem _root_.Go.Sx.lS.tb{H H'}{i b T k:Nat}{f:Nat→Value}{tr v:Value}(A:k<256)(h:lS H i (b,jM T (tab (fun j=>if j=k then v else f j) tr)) H'):lS H i (b,.cells ((tab f tr).set k v).toArray T) H':=by rw[b5J _ _ _ A];exact h
def KR (olds:List (List UInt8)) (r:Rp.Tb):Prop:=∀(rb:Nat) (a0 a1 a2 a3 osl:Value) (I:Heap),qR 9 I olds osl→jO aA 279 [ptr rb 0] I [(rb,jM 308 [a0,a1,a2,a3,osl])]
 (fun e I' H'=>∃xb,e= .returned (.iface 365 (ptr xb 0))∧YR r I' xb∧H'=[(rb,jM 308 [a0,a1,a2,a3,osl])])
theorem YR.two{a b x y}(G:b≠a)(W:x.length≤2)(Z:y.length≤2){I N O Q tr}(h:I N=some (jM 364 (tab (fun j=>if j=a.toNat then Q else if j=b.toNat then O else .slice none 0 0) tr)))(h1:TJ I y O)(h2:TJ I x Q)(h3:qR 9 I [[b],[a]] tr):YR (Rp.two a x b y) I N:=by
 refine⟨_,tr,[b,a],h,h3,by simp[G],fun c=>?_,sI,fun c z A=>?_,fun c=>?_⟩
 ·unfold Rp.two
  by_cases ha:c=a
  ·simp[ha]
  by_cases hb:c=b
  ·simp[hb,G]
  simp[ha,hb]
 ·unfold Rp.two at A
  split at A
  ·cases A;exact W
  split at A
  ·cases A;exact Z
  cases A
 unfold Rp.two
 by_cases ha:c=a
 ·subst ha;exact .inr ⟨x,zF rfl,by rw[zF rfl];exact h2⟩
 have M:¬c.toNat=a.toNat:=fun e=>ha (dZ.1 e)
 by_cases hb:c=b
 ·subst hb;exact .inr ⟨y,by rw[zD ha,zF rfl],by rw[zD M,zF rfl];exact h1⟩
 have S:¬c.toNat=b.toNat:=fun e=>hb (dZ.1 e);exact .inl ⟨by rw[zD ha,zD hb],by rw[zD M,zD S]⟩
theorem a6U A T off cs x (G:cs[off]?=some (.int .u32 x)) I:jO aA 277 [ptr A off] I [(A,jM T cs)] (fun e _ H'=>e= .returned (.bool (x != 0))∧H'=[(A,jM T cs)]):=
 jO.b4b (cO func277 dE rfl) G fun w h=>Sync.b0S ⟨A,off,none⟩ x w h
theorem b3W A T d G r o I:jO aA 304 [ptr A 1] I [(A,jM T [d,.int .i32 0,G,r,o])] (fun e _ H'=>e= .returned (.tuple #[])∧H'=[(A,jM T [d,.int .i32 1,G,r,o])]):=
 jO.ZB (off:=1) (cO func304 dE rfl) rfl fun w h h2=>Sync.lock_free ⟨A,1,none⟩ w h h2
theorem a8J A T d G r o I:NR aA 305 [ptr A 1] .returning I [(A,jM T [d,.int .i32 1,G,r,o])] (fun M _ H'=>M= .returning∧H'=[(A,jM T [d,.int .i32 0,G,r,o])]):=
 NR.ZB (off:=1) (v:= .tuple #[]) (cO func305 dE rfl) rfl fun w h h2=>(Sync.unlock_deferred ⟨A,1,none⟩ .returning w h h2).mono fun _ _ _ ⟨N,O,Q⟩=>⟨N,O,.inl Q⟩
theorem b1h A T x m G r o I:NR aA 306 [ptr A 0,.bool true] .returning I [(A,jM T [x,m,G,r,o])] (fun M _ H'=>M= .returning∧H'=[(A,jM T [.int .u32 1,m,G,r,o])]):=
 NR.ZB (off:=0) (v:= .tuple #[]) (cO func306 dE rfl) rfl fun w h h2=>(Sync.store_deferred ⟨A,0,none⟩ x .returning w h h2).mono fun _ _ _ ⟨N,O,Q⟩=>⟨N,O,.inr Q⟩
theorem a0f p q r z ob S I:jO aA 197 [.slice (some ⟨ob,0,none⟩) 4 S] I [(ob,jM 9 ([p,q,r,z].map str))]
 (fun e W H'=>∃M A,e= .returned (ptr M 0)∧H'=[(M,jM 308 [.int .u32 0,.int .i32 0,.int .u32 0,.nilIface,A])]∧qR 9 W [p,q,r,z] A):=by
 refine jU func197 fun w0 _=>?_;refine jL 20 ?_;refine bP rfl (kK (by':=15) (n:=0) (g:=none) (xs:=[]) [_] rfl rfl rfl rfl rfl lJ (.inr ⟨_,lJ⟩) kR kU yN rfl rT rfl (eP (jR.at 0 rfl) rfl rfl rfl) oM ?_);intro _ N;refine aO (jX (pl:= #[(0,3),(3,1),(4,1)]) rfl rfl zeroValue308 rfl underlying308 (fun w=>by simp[sizeOf304,sizeOf306]) (pR.part rfl (MV _ _) rfl lsA pR.none)) ?_;refine jL 1 ?_;intro Z _;refine jL 4 ?_;obtain⟨gb,gc,O,rfl,Q⟩:=N.some dE;refine Ej.pull (aS (aS bC)) ?_;refine eF Q (fun _ _ G=>?_);refine Ej.keep (Keeps.k (dL Keeps.n)) ?_;refine jV ?_;exact⟨Z,_,rfl,rfl,gb,gc,O,rfl,G⟩
def a0n (rb:Nat) (d m sm r o:Value):HL:=[(rb,jM 308 [d,m,sm,r,o])]
def b1q (r:Rp.Tb) (I:Heap) (rb:Nat) (d m:Value) (H:HL):Prop:=∃xb,YR r I xb∧H=a0n rb d m (.int .u32 0) (.iface 365 (ptr xb 0)) (.slice none 0 0)
theorem a3w{A r}(Q:KR A r) M d m G I (S:qR 9 I A G):jO aA 245 [ptr M 0] I (a0n M d m (.int .u32 0) .nilIface G)
 (fun e W H'=>e= .returned (.tuple #[])∧b1q r W M d m H'):=by
 refine jU func245 fun w0 _=>?_;refine jL 4 ?_;refine bT bC ?_;refine kL (Q M _ _ _ _ G _ S) ?_;intro _ _ _ _ N;obtain⟨Z,h,O,rfl⟩:=N;cases h;refine jL 11 ?_;refine Ej.BO rfl rfl ?_;exact⟨rfl,Z,O,rfl⟩
theorem b0B{N r}(hB:KR N r) A O I (G:qR 9 I N O):jO aA 278 [ptr A 0,.func (.func 245) #[ptr A 0] #[]] I (a0n A (.int .u32 0) (.int .i32 0) (.int .u32 0) .nilIface O)
 (fun e I' H'=>e= .returned (.tuple #[])∧b1q r I' A (.int .u32 1) (.int .i32 0) H'):=by
 refine jO.b1K func278 rfl dE (Nat.le_of_ble_eq_true rfl) ?_;intro w0 _;refine jL 5 ?_;refine bT bC ?_;refine kL (b3W A 308 _ _ _ _ _) ?_;intro _ _ _ S a0;have G:=G.mono S;obtain⟨h,rfl⟩:=a0;cases h;refine jL 7 ?_;refine J.defer rfl rfl rfl rfl rfl ?_;refine J.yC (aO q3 ?_);refine aO (qU rfl rfl) ?_;refine aO (q1 (off':=0) underlying304 sizeOf298) ?_;refine bT bC ?_;refine kL (a6U A 308 0 _ 0 rfl _) ?_;intro _ _ _ M W;have G:=G.mono M;obtain⟨h,rfl⟩:=W;cases h;refine jL 9 ?_;refine J.defer rfl rfl rfl rfl rfl ?_;refine J.nsr (aO q3 ?_);refine bT bC ?_;refine kL (a3w hB A _ _ O _ G) ?_;intro _ _ _ Q Z;have G:=G.mono Q;obtain⟨h,xb,a1,rfl⟩:=Z;cases h;refine jL 1 ?_;refine Ej.b6j (H1:=[_]) (R1:=[]) rfl (b1h A 308 _ _ _ _ _ _) (fun _=>a8J A 308 _ _ _ _ _) (fun _ M=>a8C.none rfl ?_);exact⟨rfl,xb,a1.mono M,rfl⟩
theorem b6J{G r}(hB:KR G r) A M I (N:qR 9 I G M):jO aA 244 [ptr A 0,.func (.func 245) #[ptr A 0] #[]] I (a0n A (.int .u32 0) (.int .i32 0) (.int .u32 0) .nilIface M)
 (fun e I' H'=>e= .returned (.tuple #[])∧b1q r I' A (.int .u32 1) (.int .i32 0) H'):=by
 refine jU func244 fun w0 _=>?_;refine jL 5 ?_;refine bT bC ?_;refine kL (a6U A 308 0 _ 0 rfl _) ?_;intro _ _ _ Q W;have N:=N.mono Q;obtain⟨h,rfl⟩:=W;cases h;refine jL 7 ?_;refine bT bC ?_;refine kL (b0B hB A M _ N) ?_;intro _ _ _ O S;have N:=N.mono O;obtain⟨h,xb,Z,rfl⟩:=S;cases h;refine jL 1 ?_;refine Ej.BO rfl rfl ?_;exact⟨rfl,xb,Z,rfl⟩
theorem a8s{A r}(W:KR A r) M G s (Z:s.length≤1000000000) I (N:qR 9 I A G):jO aA 198 [ptr M 0,str s] I (a0n M (.int .u32 0) (.int .i32 0) (.int .u32 0) .nilIface G)
 (fun e _ H'=>e= .returned (str (Rp.rep r s))∧H'=[]):=by
 refine jU func198 fun w0 _=>?_;refine jL 12 ?_;refine bT bC ?_;refine kL (b6J W M G _ N) ?_;intro _ _ _ O Q;have N:=N.mono O;obtain⟨h,xb,S,rfl⟩:=Q;cases h;refine jL 9 ?_;refine bP rfl (a9V (H1:=[]) (T:=365) rfl rfl rfl rfl rfl kR underlying365 (b2Y _ xb s Z _ S) ?_ (fun _ _ _ _ h=>by cases h.1) (fun _ _ h=>by cases h.1));rintro _ _ _ _ ⟨h,rfl,rfl⟩;cases h;refine kM ?_;exact rT
end Go.Proofs.YtekmeaoblpfnpaaGreatDoor
end
section
namespace Go.Proofs.YtekmeaoblpfnpaaGreatDoor
open _root_.Go.Proofs.Tryz
open Go Go.Sx
theorem a6m:(Value.agg dN).cells=(tab (fun _=> .slice none 0 0) (.slice none 0 0)).toArray:=by
 show dN=_;kernel_rfl
theorem b0W:KR [[32],[],[45],[]] (Rp.two 32 [] 45 []):=by
 intro _ _ _ _ _ _ I ho;obtain⟨ob,_,_,rfl,M⟩:=ho;rw[show([[32],[],[45],[]]:List (List UInt8)).length=4 from rfl];refine jU func279 fun w0 _=>?_;refine jL 44 ?_;refine Cj.rounds 3 ?_;refine dF ?_;refine jL 9 ?_;refine bF rfl (fun a1=>?_) (fun a1=>aG (aV (bG (by first|rfl|decide)) a1));refine kJ 0 ?_;refine jL 5 ?_;refine bF rfl (fun a2=>aG (aV (bG (by first|rfl|decide)) a2)) (fun a2=>?_);refine kJ 1 ?_;refine jL 5 ?_;refine bF rfl (fun a3=>?_) (fun a3=>aG (aV (bG (by first|rfl|decide)) a3));refine jL 10 ?_;refine dI ?_;refine dF ?_;refine jL 9 ?_;refine bF rfl (fun a4=>?_) (fun a4=>aG (aV (bG (by first|rfl|decide)) a4));refine kJ 2 ?_;refine jL 5 ?_;refine bF rfl (fun a5=>aG (aV (bG (by first|rfl|decide)) a5)) (fun a5=>?_);refine kJ 3 ?_;refine jL 5 ?_;refine bF rfl (fun a6=>?_) (fun a6=>aG (aV (bG (by first|rfl|decide)) a6));refine jL 10 ?_;refine dI ?_;refine dF ?_;refine jL 9 ?_;refine bF rfl (fun a7=>aG (aV (bG (by first|rfl|decide)) a7)) (fun a7=>?_);refine jL 18 ?_;refine aO (zZ rfl rfl rfl dE dE) ?_;refine bP rfl (QU (n:=0) (c:=2) (by1:=16) (z:=(str [])) rfl rfl rfl rfl rfl lJ kR rfl oM oM oM ?_);intro a8 a9;refine aO (jX (zs:=tab (fun _=> .slice none 0 0) (.slice none 0 0)) (cs:=tab (fun _=> .slice none 0 0) (.slice (some ⟨a8,0,none⟩) 0 2)) (pl:= #[(0,256),(256,1)]) rfl rfl zeroValue364 a6m underlying364 (fun w=>by simp[sizeOf362]) (pR.part rfl rfl rfl (b4I _ _ _) pR.none)) ?_;refine bP rfl (qI (zs:=tab (fun _=> .slice none 0 0) (.slice none 0 0)) rfl rfl rfl zeroValue364 a6m ?_);intro ah aa;refine bP rfl (oP 0 rfl rfl rfl rfl rfl (b5h (fun _=>rfl) rfl) sizeOf364 (sK _ _) rfl (oD.all (by rw[sK,sK])) dD ?_);refine bT bC ?_;refine bT (aS (aS bC)) ?_;refine jL 12 ?_;refine Cj.rounds 3 ?_;refine dF ?_;refine jL 7 ?_;refine bF rfl (fun O=>?_) (fun O=>aG (aV (bG (by first|rfl|decide)) O));refine kJ 2 ?_;refine jL 1 ?_;refine aO (lH (c:=45) rfl rfl rfl lM dE rfl) ?_;refine kJ 3 ?_;refine jL 10 ?_;refine aO (jP rfl rfl FI (jR.at 1 rfl) (wR _ _ dE)) ?_;refine J.ev 116 (.slice none 0 0) rfl (by first|rfl|exact zD dE) ?_;refine jL 6 ?_;refine aO (jP rfl rfl a0l (jR.at 1 rfl) (ZN _ _)) ?_;refine jL 2 ?_;intro _ _;refine aO (uJ [45] rfl rfl rfl rP lM LV (jR.at 0 rfl) rfl) ?_;refine jL 1 ?_;intro _ _;refine bP rfl (kK (by':=15) (n:=0) (g:=some (a8,2,dA 2 (str []))) (xs:=[]) [_,_,_,_] rfl rfl rfl rfl rfl lJ (.inr ⟨_,lJ⟩) kR kU yN rfl ⟨a9,rfl,rfl⟩ rfl (eP (jR.at 0 rfl) rfl rfl rfl) oM ?_);intro _ ab;refine jL 1 ?_;refine bP rfl (tH 3 rfl rfl rfl rfl (a1X _ _) (a6Q _ _) WQ rfl (.inl rfl) (by rw[sK];decide) (lS.tr (aP (aP (aP dD)))) ?_);refine jL 5 ?_;refine bP rfl (EW rfl rfl rfl rfl lM rP LV ?_);intro ai _ _ _ ac _;refine J.persist ac (fun _ Z A=>?_);have M:=Z _ _ M;refine jL 2 ?_;refine bP rfl (tH 3 rfl rfl rfl rfl rfl rfl FB rfl (.inl rfl) (by rw[sK];decide) (lS.tb dE (aP (aP (aP dD)))) ?_);refine jL 8 ?_;refine dI ?_;refine dF ?_;refine jL 7 ?_;refine bF rfl (fun Q=>?_) (fun Q=>aG (aV (bG (by first|rfl|decide)) Q));refine kJ 0 ?_;refine jL 1 ?_;refine aO (lH (c:=32) rfl rfl rfl lM dE rfl) ?_;refine kJ 1 ?_;refine jL 10 ?_;refine aO (jP rfl rfl FI (jR.at 3 rfl) (wR _ _ dE)) ?_;refine J.ev 116 (.slice none 0 0) rfl (by first|rfl|exact zD dE) ?_;refine jL 6 ?_;refine aO (jP rfl rfl a0l (jR.at 3 rfl) (ZN _ _)) ?_;refine jL 2 ?_;intro _ _;refine aO (uJ [32] rfl rfl rfl rP lM LV (jR.at 0 rfl) rfl) ?_;refine jL 1 ?_;intro _ _;refine yQ 15 [_,_,_,_,_,_] ab ?_;intro _ ad;refine jL 1 ?_;refine bP rfl (tH 5 rfl rfl rfl rfl (a1X _ _) (a6Q _ _) WQ rfl (.inl rfl) (by rw[sK];decide) (lS.tr (aP (aP (aP (aP (aP dD)))))) ?_);refine jL 5 ?_;refine bP rfl (EW rfl rfl rfl rfl lM rP LV ?_);intro aj _ _ _ ae _;refine J.persist ae (fun _ N a0=>?_);have M:=N _ _ M;have A:=N _ _ A;refine jL 2 ?_;refine bP rfl (tH 5 rfl rfl rfl rfl rfl rfl FB rfl (.inl rfl) (by rw[sK];decide) (lS.tb dE (aP (aP (aP (aP (aP dD)))))) ?_);refine jL 8 ?_;refine dI ?_;refine dF ?_;refine jL 7 ?_;refine bF rfl (fun S=>aG (aV (bG (by first|rfl|decide)) S)) (fun S=>?_);refine jL 12 ?_;obtain⟨gb,gc,al,rfl,am⟩:=ad.some dE;refine Ej.pull (aS (aS (aS (aS (aS (aS bC)))))) ?_;refine eF am (fun _ W af=>?_);refine Ej.pull (aS (aS (aS (aS (aS bC))))) ?_;refine eF aa (fun _ G ag=>?_);refine Ej.keep (dL (dL (dL (dL (Keeps.k Keeps.n))))) ?_;refine jV ?_;exact⟨ah,rfl,YR.two dE dE dE ag ⟨ai,_,_,_,rfl,G _ _ (W _ _ A)⟩ ⟨aj,_,_,_,rfl,G _ _ (W _ _ a0)⟩ ⟨gb,gc,al,rfl,G _ _ af⟩,rfl⟩
theorem b4G s:Rp.rep (Rp.two 32 [] 45 []) s=Ke.rep s:=by
 induction s with
 |nil=>rfl
 |cons c s A=>
  show Rp.one _ c++Rp.rep _ s=Ke.rep (c::s);rw[A];unfold Ke.rep Rp.one Rp.two;rw[List.filter_cons,Ke.b6U]
  by_cases h1:c=32
  ·simp[h1]
  by_cases h2:c=45
  ·simp[h2]
  simp[h1,h2]
theorem a5Q G A s (M:s.length≤1000000000) I (N:qR 9 I [[32],[],[45],[]] A):jO aA 198 [ptr G 0,str s] I (a0n G (.int .u32 0) (.int .i32 0) (.int .u32 0) .nilIface A) (fun e _ H'=>e= .returned (str (Ke.rep s))∧H'=[]):=by
 rw[←b4G];exact a8s b0W G A s M I N
end Go.Proofs.YtekmeaoblpfnpaaGreatDoor
end
namespace Ke
open Go Go.Sx
def MQ:Nat→List (Nat×Bs)→ML Int
 |_,[]=>[]
 |i,(c,s)::r=>((c:Int),dJ s,i)::MQ (i+1) r
def SA (l:List (Nat×Bs)):ML Int:=MQ 0 l
theorem cc(c d:Nat):((c:Int) == (d:Int))=(c == d):=by rw[Bool.eq_iff_iff,beq_iff_eq,beq_iff_eq];omega
theorem WT:∀(l:List (Nat×Bs)) (i c:Nat),kH (MQ i l) (c:Int)=(l.lookup c).map dJ
 |[],_,_=>rfl
 |(d,s)::r,i,c=>by
  simp only[MQ,kH,cc,dW]
  by_cases h:c=d
  ·subst h;simp
  have:(c == d)=false:=by simpa using h
  rw[this];simp only[dK,if_false];exact WT r (i+1) c
theorem a3z:∀(l:List (Nat×Bs)) (i c:Nat) (s:Bs),c ∉ l.map (·.1)→kN (MQ i l) (c:Int) (dJ s) (i+l.length)=MQ i (l++[(c,s)])
 |[],_,_,_,_=>rfl
 |(d,t)::r,i,c,s,h=>by
  simp only[aK,aW,not_or]at h;have:(c == d)=false:=by simpa using h.1
  simp only[MQ,kN,cc,this,aU,aH];simp only[dK,if_false];rw[←a3z r (i+1) c s h.2,show i+1+r.length=i+(r.length+1) by omega]
theorem KG:∀{l:List (Nat×Bs)} {c:Nat},c ∉ l.map (·.1)→l.lookup c=none
 |[],_,_=>rfl
 |(d,t)::r,c,h=>by
  simp only[aK,aW,not_or]at h;have:(c == d)=false:=by simpa using h.1
  rw[dW,this];exact KG h.2
theorem a4M{l}{c:Nat}{s}(h:c ∉ l.map (·.1)):kN (SA l) (c:Int) (dJ s) l.length=SA (l++[(c,s)])∧mV (SA l) (c:Int) l.length=(l++[(c,s)]).length:=by
 refine⟨by have:=a3z l 0 c s h;rwa [Nat.zero_add]at this,?_⟩;unfold mV SA;rw[WT,KG h];simp
def b6L:List Bs:=rows.map fun p=>p.1++32::p.2
theorem OQ:∀(x y:List (Bs×Bs)),pX (x++y)=pX x++pX y
 |[],_=>rfl
 |(a,b)::r,y=>by simp only[aU,pX,OQ r y,dM]
theorem UZ{k a b}(h:rows[k]?=some (a,b)):pX (rows.take (k+1))=pX (rows.take k)++(runes b).map (·,a):=by
 obtain⟨A,G⟩:=bV.1 h;rw[List.take_succ_eq_append_getElem A,G,OQ];simp[pX]
theorem fresh{k c a b x y}(h:rows[k]?=some (a,b))(N:runes b=x++c::y):c ∉ (pX (rows.take k)++x.map (·,a)).map (·.1):=by
 have A:=a1v;have e:rows=rows.take k++(a,b)::rows.drop (k+1):=by
  obtain⟨G,O⟩:=bV.1 h;rw[←O,←List.drop_eq_getElem_cons G,dB]
 rw[←ZH,e,OQ]at A;simp only[pX,N,bY,aK]at A;have Q:(pX (rows.take k)).map (·.1)++((x.map (·,a)).map (·.1)++c::(y.map (·,a)).map (·.1)++(pX (rows.drop (k+1))).map (·.1))=((pX (rows.take k)).map (·.1)++(x.map (·,a)).map (·.1))++c::((y.map (·,a)).map (·.1)++(pX (rows.drop (k+1))).map (·.1)):=sI;rw[Q,List.nodup_append]at A;intro M;rw[bY]at M;exact A.2.2 c M c (.head _) rfl
theorem a2r:∀p∈rows,p.1.all (fun c=>decide (c≠32))=true∧p.1.length≤10∧p.2.length≤100:=by decide +kernel
def cutAt (c:UInt8):Bs→Bs×Bs×Bool
 |[]=>([],[],false)
 |d::r=>if d=c then([],r,true)else(d::(cutAt c r).1,(cutAt c r).2)
theorem a1n:∀{a b:Bs} {c:UInt8},a.all (fun d=>decide (d≠c))=true→cutAt c (a++c::b)=(a,b,true)
 |[],b,c,_=>by simp[cutAt]
 |d::r,b,c,h=>by
  rw[List.all_cons,dS]at h;have h1:d≠c:=zA h.1;simp only[aU,cutAt,zD h1,a1n h.2]
theorem SG:∀(c:UInt8) (s:Bs),(aX s c= -1∧cutAt c s=(s,[],false))∨∃n:Nat,aX s c=n∧n<s.length∧cutAt c s=(s.take n,s.drop (n+1),true)
 |c,[]=> .inl rT
 |c,d::r=>by
  unfold aX
  by_cases hd:d=c
  ·subst hd;exact .inr ⟨0,sI,sI,by simp[cutAt]⟩
  have A:(d == c)=false:=by simpa using hd
  rw[A];rcases SG c r with⟨h1,h2⟩|⟨n,G,O,M⟩
  ·rw[h1];exact .inl ⟨sI,by simp[cutAt,hd,h2]⟩
  rw[G];have N:((n:Int) == -1)=false:=by
   rw[beq_eq_false_iff_ne];omega
  rw[N];exact .inr ⟨n+1,sI,by simp;omega,by simp[cutAt,hd,M]⟩
theorem VB{b i x}(h:runes b=x++runes (b.drop i))(A:i<b.length):runes b=x++(aI ⟨b.toArray⟩ i).1::runes (b.drop (i+(aI ⟨b.toArray⟩ i).2)):=by
 rw[h,IE A]
theorem a4P{b i x}(h:runes b=x++runes (b.drop i))(A:i<b.length):runes b=(x++[(aI ⟨b.toArray⟩ i).1])++runes (b.drop (i+(aI ⟨b.toArray⟩ i).2)):=by
 rw[VB h A];simp
theorem a8e{b i x}(h:runes b=x++runes (b.drop i))(A:¬i<b.length):runes b=x:=by
 rw[h,DT oM,bZ]
end Ke
section
namespace Go.Proofs.YtekmeaoblpfnpaaGreatDoor
open Go Go.Sx
def Tab (I:Heap) (b:Nat):Prop:=I b=some (kG (fun a:Int=>aQ .i32 a) (Ke.SA Ke.tab) 207)
theorem Tab.mono{I A b}(h:Tab I b)(G:Le I A):Tab A b:=G _ _ h
theorem CG{a b:Prop}[Decidable a][Decidable b](h:(decide a && decide b)=true):a∧b:=by simpa using h
theorem CS{a b:Prop}[Decidable a][Decidable b](h:(decide a && decide b)=false):¬(a∧b):=fun g=>by simp[g.1,g.2]at h
theorem pW c a b I:Pure aA 183 [.int .i32 c,.int .i32 a,.int .i32 b] I (.bool (decide (a≤c) && decide (c≤b))):=by
 refine jU Tryz.func183 fun w0 _=>?_;refine oW ?_ ?_<;>intro A
 ·refine jV ?_;refine⟨?_,rfl,rfl⟩;have h:=A
  first|(simp_all;done)|(simp_all;omega)
 refine jV ?_;refine⟨?_,rfl,rfl⟩;have h:=A
 first|(simp_all;done)|(simp_all;omega)
theorem b3P(c b:Nat)(hc:c≤1114111) I (hT:Tab I b):Pure aA 129 [.int .i32 (c:Int),.map (some b)] I (str (Ke.char c)):=by
 have hm:kH (Ke.SA Ke.tab) (c:Int)=(Ke.tab.lookup c).map str:=Ke.WT _ 0 c;refine jU Tryz.func129 fun w0 _=>?_;refine kC (pW _ _ _ _) ?_;refine mW ?_ ?_<;>intro Z
 ·have ay:=CG Z;refine jV ?_;refine⟨?_,rfl,rfl⟩;refine zC (fun l=>aC (str l)) ?_;unfold Ke.char;rw[zF oM];exact Ke.qM (by unfold Ke.wK;omega)
 have az:=CS Z;refine kC (pW _ _ _ _) ?_;refine mW ?_ ?_<;>intro a0
 ·have b0:=CG a0;refine jV ?_;refine⟨?_,rfl,rfl⟩;refine zC (fun l=>aC (str l)) ?_;unfold Ke.char;rw[zF oM];exact Ke.qM (by unfold Ke.wK;omega)
 have b1:=CS a0;refine kC (pW _ _ _ _) ?_;refine mW ?_ ?_<;>intro a1
 ·have ar:=CG a1;refine jV ?_;refine⟨?_,rfl,rfl⟩;refine zC (fun l=>aC (str l)) ?_;unfold Ke.char;rw[zD oM,zF oM];exact(zC (fun n:Int=>(aN n).data.toList) oM).trans (Ke.qM (c:=c+32) (by unfold Ke.wK;omega))
 have au:=CS a1;refine jS ?_ ?_<;>intro a2 a8
 ·have av:=mO a2;refine jV ?_;refine⟨?_,rfl,rfl⟩;refine zC (fun l=>aC (str l)) ?_;unfold Ke.char;rw[zD oM,zD oM,zF oM]
 have aw:=nM a2;refine kC (pW _ _ _ _) ?_;refine mW ?_ ?_<;>intro a3
 ·have ax:=CG a3;refine jV ?_;refine⟨?_,rfl,rfl⟩;refine zC (fun l=>aC (str l)) ?_;unfold Ke.char;rw[zD oM,zD oM,zD oM,zF oM]
 have a9:=CS a3;refine kC (pW _ _ _ _) ?_;refine mW ?_ ?_<;>intro a4
 ·have aa:=CG a4;refine jV ?_;refine⟨?_,rfl,rfl⟩;refine zC (fun l=>aC (str l)) ?_;unfold Ke.char;rw[zD oM,zD oM,zD oM,zF oM]
 have ab:=CS a4;refine jL 8 ?_;refine aO (a8p (kv:=fun a:Int=>aQ .i32 a) (l:=Ke.SA Ke.tab) (a:=(c:Int)) rfl rfl rfl rfl Tryz.underlying200 (mY.int a7m) yN (bD hT)) ?_;refine mW ?_ ?_<;>intro a5
 ·obtain⟨x,A⟩:=Option.isSome_iff_exists.1 (show(Ke.tab.lookup c).isSome=true by have h:=a5;rw[hm]at h;simpa using h);refine Cj.ev 5 (str x) rfl (by rw[hm,A];rfl) ?_;refine jV ?_;refine⟨?_,rfl,rfl⟩;refine zC (fun l=>aC (str l)) ?_;unfold Ke.char;rw[zD oM,zD oM,zD oM,zD oM,A]
 have A:Ke.tab.lookup c=none:=by have h:=a5;rw[hm]at h;simpa using h
 refine jS ?_ ?_<;>intro G a6
 ·have ac:=lU G;refine jV ?_;refine⟨?_,rfl,rfl⟩;refine zC (fun l=>aC (str l)) ?_;unfold Ke.char;rw[zD oM,zD oM,zD oM,zD oM,A];simp only;rw[zF oM];rfl
 have ad:=lY G;refine kC (pW _ _ _ _) ?_;refine mW ?_ ?_<;>intro M
 ·have ae:=CG M;refine jV ?_;refine⟨?_,rfl,rfl⟩;refine zC (fun l=>aC (str l)) ?_;unfold Ke.char;rw[zD oM,zD oM,zD oM,zD oM,A];simp only;rw[zD oM,zF oM];exact Ke.qM (by unfold Ke.wK;omega)
 have af:=CS M;refine kC (pW _ _ _ _) ?_;refine mW ?_ ?_<;>intro N
 ·have ag:=CG N;refine jV ?_;refine⟨?_,rfl,rfl⟩;refine zC (fun l=>aC (str l)) ?_;unfold Ke.char;rw[zD oM,zD oM,zD oM,zD oM,A];simp only;rw[zD oM,zF oM];exact Ke.qM (by unfold Ke.wK;omega)
 have ah:=CS N;refine kC (pW _ _ _ _) ?_;refine oW ?_ ?_<;>intro O
 ·have ai:=CG O;refine jS ?_ ?_<;>intro Q a7
  ·have aj:(c:Int)≠930:=by have h:=Q;simpa using h
   refine jV ?_;refine⟨?_,rfl,rfl⟩;refine zC (fun l=>aC (str l)) ?_;unfold Ke.char;rw[zD oM,zD oM,zD oM,zD oM,A];simp only;rw[zD oM,zD oM,zF oM];exact(zC (fun n:Int=>(aN n).data.toList) oM).trans (Ke.qM (c:=c+32) (by unfold Ke.wK;omega))
  have al:¬(c:Int)≠930:=by have h:=Q;simpa using h
  refine kC (pW _ _ _ _) ?_;refine mW ?_ ?_<;>intro S
  ·have am:=CG S;refine jV ?_;refine⟨?_,rfl,rfl⟩;refine zC (fun l=>aC (str l)) ?_;unfold Ke.char;rw[zD oM,zD oM,zD oM,zD oM,A];simp only;rw[zD oM,zD oM,zF oM];exact(zC (fun n:Int=>(aN n).data.toList) oM).trans (Ke.qM (c:=c+32) (by unfold Ke.wK;omega))
  have an:=CS S;refine jV ?_;refine⟨?_,rfl,rfl⟩;refine zC (fun l=>aC (str l)) ?_;unfold Ke.char;rw[zD oM,zD oM,zD oM,zD oM,A];simp only;rw[zD oM,zD oM,zD oM]
 have ao:=CS O;refine kC (pW _ _ _ _) ?_;refine mW ?_ ?_<;>intro W
 ·have ap:=CG W;refine jV ?_;refine⟨?_,rfl,rfl⟩;refine zC (fun l=>aC (str l)) ?_;unfold Ke.char;rw[zD oM,zD oM,zD oM,zD oM,A];simp only;rw[zD oM,zD oM,zF oM];exact(zC (fun n:Int=>(aN n).data.toList) oM).trans (Ke.qM (c:=c+32) (by unfold Ke.wK;omega))
 have aq:=CS W;refine jV ?_;refine⟨?_,rfl,rfl⟩;refine zC (fun l=>aC (str l)) ?_;unfold Ke.char;rw[zD oM,zD oM,zD oM,zD oM,A];simp only;rw[zD oM,zD oM,zD oM]
