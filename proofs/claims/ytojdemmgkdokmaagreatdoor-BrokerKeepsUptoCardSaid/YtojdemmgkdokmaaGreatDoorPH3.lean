/-
  Own texts on the laws of the seat, joined: the logic, and contracts of functions. Conditions: none.
-/
import Derived.Test.YtojdemmgkdokmaaGreatDoorNmH
import Derived.Test.YtojdemmgkdokmaaGreatDoorPH2
import Derived.Shelf.Strings.Builder1
import Derived.Shelf.Strings.Builder2
import Derived.Shelf.Strings.OnBuilder
import Derived.Shelf.Strings.Trim
import Derived.Shelf.Small.Utf8
import Derived.Shelf.Small.Bits
import Derived.Shelf.Small.Strs
import Derived.Shelf.Small.Wraps
import Derived.Shelf.Strings.BuilderF
import Derived.Shelf.Strings.BuilderK
import Derived.Shelf.Strings.BuilderRune
import Derived.Shelf.Utf8.AppendRune
import Derived.Shelf.Utf8.AppendRunePlain
import Derived.Shelf.Utf8.RuneCount
import Derived.Shelf.Strings.Builder2Cap
import Derived.Shelf.Strconv.Itoa0
import Derived.Shelf.Strings.Search1
import Derived.Shelf.Strings.Search2
import Derived.Shelf.Strings.Search3
import Derived.Shelf.Strings.Cut
import Derived.Shelf.Strings.Count
import Derived.Shelf.LaysM
import Derived.Shelf.Strings.Shaped
import Derived.Shelf.Sort.Plain
import Derived.Shelf.GgClosure.StringsIndexFunc
import Derived.Ground.GgwProg
import Derived.Shelf.GgClosure.StringsIndexFuncTop
import Derived.Shelf.Strings.Prefix
import Derived.Shelf.Strings.Split
import Derived.Shelf.Strings.Fields
import Derived.Shelf.Strings.SplitShaped
import Derived.Shelf.Unicode.Latin
import Derived.Shelf.Unicode.Decode
import Derived.Shelf.Strings.Runes
import Derived.Shelf.Strings.RuneCount
import Derived.Shelf.Strings.IndexAny
import Derived.Shelf.Strings.AsciiSet
import Derived.Shelf.Strings.IndexAnyAll
import Derived.Shelf.Unicode.DecodeSlow
import Derived.Shelf.Unicode.DecodeAny
import Derived.Shelf.Unicode.Is16White
import Derived.Shelf.Unicode.IsSpaceAny
import Derived.Shelf.Unicode.DecodeLast
import Derived.Shelf.Unicode.Is16WhiteD
import Derived.Shelf.Unicode.IsSpaceAnyD
import Derived.Shelf.Strings.FieldsAny
import Derived.Shelf.Strings.FieldsFuncAny
import Derived.Shelf.Unicode.CaseLookup
import Derived.Shelf.Unicode.CaseConvert
import Derived.Shelf.Unicode.CaseTo
import Derived.Shelf.Unicode.CaseLaid
import Derived.Shelf.Strings.MapAny
import Derived.Shelf.Strings.CaseAny
import Derived.Shelf.Unicode.Is16Any
import Derived.Shelf.Unicode.Is32Any
import Derived.Shelf.Unicode.ExclAny
import Derived.Shelf.Strings.FuncGrows
import Derived.Shelf.Strings.FieldsFuncGrows
import Derived.Shelf.Strings.BuilderCap
import Derived.Shelf.Strings.MapGrows
import Derived.Shelf.Slices.Turned
import Derived.Shelf.Slices.Equal
import Derived.Ground.Names2Prog
import Derived.Shelf.Slices.Clone
import Derived.Shelf.Slices.CompactI
import Derived.Shelf.Slices.CompactS
import Derived.Shelf.Slices.SearchI
import Derived.Shelf.Slices.Cells
import Derived.Shelf.Slices.In.SortNone
import Derived.Shelf.Slices.Empties2
import Derived.Ground.SlgnProg
import Derived.Shelf.SlicesE.Clone
import Derived.Sort.Grow
import Derived.Sort.EncStr
set_option linter.all false
set_option maxRecDepth 100000
set_option maxHeartbeats 40000000
open Go.Proofs.Tryz renaming prog -> aA
open Go.Sx.J renaming z -> aB
open Go.Shelf renaming Ren -> aC
open Go.Sx.JA renaming tk -> aF
open Go.Sort renaming ahead -> aG
open Go.Value renaming int -> aH,bool -> aW,oneCell' -> dL,string -> dQ
open List renaming mem_singleton -> aI,take_of_length_le -> aJ,getElem?_eq_getElem -> aO,count_le_length -> aV,length_append -> aY,map_cons -> bC,sum_cons -> bD,getElem?_append_right -> bF,length_cons -> bH,length_map -> bP,drop_zero -> bT,getElem?_drop -> bY,flatMap_cons -> bZ,append_assoc -> cO,countP_cons -> dB,length_take -> dD,append_nil -> dG,replicate -> dK,take_left -> dM,drop_drop -> dN,mem_cons -> dP
open Go.Lib renaming goFieldsP -> aK,fieldsD -> aS,compact -> aT,indexByte -> aZ
open Go.Sx.Ej renaming seq -> aN,FN -> aQ,round -> bK,JK -> dA,KH -> dH,LC -> dI
open Go.Sx.Cj renaming region -> aP,seq -> bI,block -> bJ,skip -> bU
open Go.Sx.yR renaming TS -> aU
open Nat renaming zero_le -> aX,zero_add -> bW,mul_one -> cZ,min_eq_left -> dJ
open Array renaming getElem?_append_left -> bG,getElem?_modify -> bQ
open Option renaming map_some -> bM
open Go.Proofs.Builder renaming Extra -> bV
open ByteArray renaming empty -> dF
open Go.Proofs.SlLaysE0 renaming n41 -> dR
open Go.Proofs.Lays renaming n158 -> dS,n156 -> dU,n161 -> dV,n160 -> dW,n119 -> dX,n106 -> dY,n137 -> dZ,n122 -> eF,n219 -> eG,n138 -> eH,n189 -> eP,n190 -> eU,n157 -> eX,n152 -> eY,n151 -> fA,n226 -> fB,n153 -> fC,n260 -> fD,n229 -> fE,n230 -> fF,n109 -> fG,n110 -> fH,n194 -> fK,n99 -> fM
open Go.Proofs.Lays2 renaming n20 -> fJ
namespace Go.Proofs
open _root_.Go.Proofs.Tryz
open Go.Shelf
def Tryz.lays158_ren:aC:=⟨fun|158=>162|165=>215|166=>175|167=>216|169=>177|230=>217|203=>218|240=>225|241=>278|197=>279|118=>280|168=>281|270=>282|262=>283|276=>292|277=>306|260=>307|242=>308|313=>309|278=>330|274=>331|275=>332|n=>n,fun|9=>9|4=>4|3=>3|5=>5|72=>271|0=>0|76=>275|75=>274|107=>307|70=>269|20=>20|37=>262|127=>326|21=>21|105=>362|164=>371|162=>388|203=>386|119=>378|46=>161|139=>415|138=>414|51=>227|160=>416|208=>449|206=>447|80=>35|n=>n,fun|13=>2|3=>4|4=>5|n=>n⟩
theorem Tryz.lays158:dS aA Tryz.lays158_ren:={
 mixed:=kR
 f118:=func280.trans (zD some kR)
 f158:=func162.trans (zD some kR)
 f165:=func215.trans (zD some kR)
 f166:=func175.trans (zD some kR)
 f167:=func216.trans (zD some kR)
 f168:=func281.trans (zD some kR)
 f169:=func177.trans (zD some kR)
 f197:=func279.trans (zD some kR)
 f203:=func218.trans (zD some kR)
 f230:=func217.trans (zD some kR)
 f240:=func225.trans (zD some kR)
 f241:=func278.trans (zD some kR)
 f242:=func308.trans (zD some kR)
 f260:=func307.trans (zD some kR)
 f262:=func283.trans (zD some kR)
 f270:=func282.trans (zD some kR)
 f274:=func331.trans (zD some kR)
 f275:=func332.trans (zD some kR)
 f276:=func292.trans (zD some kR)
 f277:=func306.trans (zD some kR)
 f278:=func330.trans (zD some kR)
 f313:=func309.trans (zD some kR)
 t0:=underlying0
 a0:=isAgg0
 z0:=sizeOf0
 v0:=zeroValue0
 t3:=underlying3
 a3:=isAgg3
 z3:=sizeOf3
 v3:=zeroValue3
 t4:=underlying4
 a4:=isAgg4
 z4:=sizeOf4
 v4:=zeroValue4
 t5:=underlying5
 a5:=isAgg5
 z5:=sizeOf5
 v5:=zeroValue5
 t9:=underlying9
 a9:=isAgg9
 z9:=sizeOf9
 v9:=zeroValue9
 t20:=underlying20
 a20:=isAgg20
 z20:=sizeOf20
 v20:=zeroValue20
 t21:=underlying21
 a21:=isAgg21
 z21:=sizeOf21
 v21:=zeroValue21
 t37:=underlying262
 a37:=isAgg262
 z37:=sizeOf262
 v37:=zeroValue262
 t46:=underlying161
 a46:=isAgg161
 z46:=sizeOf161
 v46:=zeroValue161
 t51:=underlying227
 a51:=isAgg227
 z51:=sizeOf227
 v51:=zeroValue227
 t70:=underlying269
 a70:=isAgg269
 z70:=sizeOf269
 v70:=zeroValue269
 t72:=underlying271
 a72:=isAgg271
 z72:=sizeOf271
 v72:=zeroValue271
 t75:=underlying274
 a75:=isAgg274
 z75:=sizeOf274
 v75:=zeroValue274
 t76:=underlying275
 a76:=isAgg275
 z76:=sizeOf275
 v76:=zeroValue275
 t105:=underlying362
 a105:=isAgg362
 z105:=sizeOf362
 v105:=zeroValue362
 t107:=underlying307
 a107:=isAgg307
 z107:=sizeOf307
 v107:=zeroValue307
 t119:=underlying378
 a119:=isAgg378
 z119:=sizeOf378
 t127:=underlying326
 a127:=isAgg326
 z127:=sizeOf326
 v127:=zeroValue326
 t138:=underlying414
 a138:=isAgg414
 z138:=sizeOf414
 v138:=zeroValue414
 t139:=underlying415
 a139:=isAgg415
 z139:=sizeOf415
 v139:=zeroValue415
 t160:=underlying416
 a160:=isAgg416
 z160:=sizeOf416
 v160:=zeroValue416
 t162:=underlying388
 a162:=isAgg388
 z162:=sizeOf388
 v162:=zeroValue388
 t164:=underlying371
 a164:=isAgg371
 z164:=sizeOf371
 v164:=zeroValue371
 t203:=underlying386
 a203:=isAgg386
 z203:=sizeOf386
 v203:=zeroValue386
 t206:=underlying447
 a206:=isAgg447
 z206:=sizeOf447
 v206:=zeroValue447
 t208:=underlying449
 a208:=isAgg449
 z208:=sizeOf449
 v208:=zeroValue449
 g3:=kR
 g4:=kR
 g13:=by kernel_rfl }
theorem Tryz.Builder_Extra_158:bV aA Tryz.lays158_ren:={
 sizeBuilder:=kR
 liesBuilder:=kR
 t5:=underlying5
 a5:=isAgg5
 z5:=sizeOf5
 v5:=zeroValue5
 infoByte:=kR
 cellsByte:=kR
 sizeByte:=kR
 neB5:=by decide }
open Go.RowKit in
theorem Tryz.strings_ToUpper_ascii s w (hs:s.size≤140737488355328)(h:∀(j:Nat) (b:UInt8),s.data.toList[j]?=some b→b.toNat<128):
 Calls aA 162 #[.string s] w fun e w'=>e= .returned (.string ⟨(Lib.toUpperA s.data.toList).toArray⟩)∧Below w.heap.size w w':=Any.strings_ToUpper_ascii Tryz.lays158 Tryz.Builder_Extra_158 s w hs h
def Tryz.lays156_ren:aC:=⟨fun|156=>171|165=>215|166=>175|169=>177|240=>225|241=>278|276=>292|277=>306|n=>n,fun|31=>144|9=>9|3=>3|4=>4|0=>0|20=>20|72=>271|76=>275|70=>269|37=>262|75=>274|127=>326|164=>371|5=>5|80=>35|n=>n,fun|n=>n⟩
theorem Tryz.lays156:dU aA Tryz.lays156_ren:={
 mixed:=kR
 f156:=func171.trans (zD some kR)
 f165:=func215.trans (zD some kR)
 f166:=func175.trans (zD some kR)
 f169:=func177.trans (zD some kR)
 f240:=func225.trans (zD some kR)
 f241:=func278.trans (zD some kR)
 f276:=func292.trans (zD some kR)
 f277:=func306.trans (zD some kR)
 t0:=underlying0
 a0:=isAgg0
 z0:=sizeOf0
 v0:=zeroValue0
 t3:=underlying3
 a3:=isAgg3
 z3:=sizeOf3
 v3:=zeroValue3
 t4:=underlying4
 a4:=isAgg4
 z4:=sizeOf4
 v4:=zeroValue4
 t9:=underlying9
 a9:=isAgg9
 z9:=sizeOf9
 v9:=zeroValue9
 t20:=underlying20
 a20:=isAgg20
 z20:=sizeOf20
 v20:=zeroValue20
 t31:=underlying144
 a31:=isAgg144
 z31:=sizeOf144
 v31:=zeroValue144
 t37:=underlying262
 a37:=isAgg262
 z37:=sizeOf262
 v37:=zeroValue262
 t70:=underlying269
 a70:=isAgg269
 z70:=sizeOf269
 v70:=zeroValue269
 t72:=underlying271
 a72:=isAgg271
 z72:=sizeOf271
 v72:=zeroValue271
 t75:=underlying274
 a75:=isAgg274
 z75:=sizeOf274
 v75:=zeroValue274
 t76:=underlying275
 a76:=isAgg275
 z76:=sizeOf275
 v76:=zeroValue275
 t127:=underlying326
 a127:=isAgg326
 z127:=sizeOf326
 v127:=zeroValue326
 t164:=underlying371
 a164:=isAgg371
 z164:=sizeOf371
 v164:=zeroValue371 }
theorem Tryz.Builder_Extra_156:bV aA Tryz.lays156_ren:={
 sizeBuilder:=kR
 liesBuilder:=kR
 t5:=underlying5
 a5:=isAgg5
 z5:=sizeOf5
 v5:=zeroValue5
 infoByte:=kR
 cellsByte:=kR
 sizeByte:=kR
 neB5:=by decide }
open Go.RowKit in
theorem Tryz.strings_Join_none a c h w:
 Calls aA 171 #[.slice a 0 c,.string h] w fun e w'=>e= .returned (.string ⟨#[]⟩)∧w'=w:=Any.strings_Join_none Tryz.lays156 Tryz.Builder_Extra_156 a c h w
open Go.RowKit in
theorem Tryz.strings_Join bk o c (xs:List ByteArray) h w (A:∀(j:Nat) x,xs[j]?=some x→w.cell? ⟨bk,o+j,none⟩=some (.string x))(Z:bk<w.heap.size)(hN:xs.length≤140737488355328)(G:xs.length≤c)(O:(Lib.join (xs.map (·.data.toList)) h.data.toList).length≤140737488355328):
 Calls aA 171 #[.slice (some ⟨bk,o,none⟩) xs.length c,.string h] w fun e w'=>e= .returned (.string ⟨(Lib.join (xs.map (·.data.toList)) h.data.toList).toArray⟩)∧Below w.heap.size w w':=Any.strings_Join Tryz.lays156 Tryz.Builder_Extra_156 bk o c xs h w A Z hN G O
def Tryz.lays161_ren:aC:=⟨fun|161=>180|231=>235|227=>236|233=>237|235=>238|228=>240|197=>279|151=>161|260=>307|152=>214|137=>170|119=>275|224=>276|225=>277|217=>222|266=>290|n=>n,fun|9=>9|4=>4|3=>3|5=>5|117=>335|116=>334|0=>0|124=>338|105=>362|21=>21|119=>378|46=>161|139=>415|138=>414|n=>n,fun|3=>4|4=>5|n=>n⟩
theorem Tryz.lays161:dV aA Tryz.lays161_ren:={
 mixed:=kR
 f119:=func275.trans (zD some kR)
 f137:=func170.trans (zD some kR)
 f151:=func161.trans (zD some kR)
 f152:=func214.trans (zD some kR)
 f161:=func180.trans (zD some kR)
 f197:=func279.trans (zD some kR)
 f217:=func222.trans (zD some kR)
 f224:=func276.trans (zD some kR)
 f225:=func277.trans (zD some kR)
 f227:=func236.trans (zD some kR)
 f228:=func240.trans (zD some kR)
 f231:=func235.trans (zD some kR)
 f233:=func237.trans (zD some kR)
 f235:=func238.trans (zD some kR)
 f260:=func307.trans (zD some kR)
 f266:=func290.trans (zD some kR)
 t0:=underlying0
 a0:=isAgg0
 z0:=sizeOf0
 v0:=zeroValue0
 t3:=underlying3
 a3:=isAgg3
 z3:=sizeOf3
 v3:=zeroValue3
 t4:=underlying4
 a4:=isAgg4
 z4:=sizeOf4
 v4:=zeroValue4
 t5:=underlying5
 a5:=isAgg5
 z5:=sizeOf5
 v5:=zeroValue5
 t9:=underlying9
 a9:=isAgg9
 z9:=sizeOf9
 v9:=zeroValue9
 t21:=underlying21
 a21:=isAgg21
 z21:=sizeOf21
 v21:=zeroValue21
 t46:=underlying161
 a46:=isAgg161
 z46:=sizeOf161
 v46:=zeroValue161
 t105:=underlying362
 a105:=isAgg362
 z105:=sizeOf362
 v105:=zeroValue362
 t116:=underlying334
 a116:=isAgg334
 z116:=sizeOf334
 t117:=underlying335
 a117:=isAgg335
 z117:=sizeOf335
 v117:=zeroValue335
 t119:=underlying378
 a119:=isAgg378
 z119:=sizeOf378
 t124:=underlying338
 a124:=isAgg338
 z124:=sizeOf338
 v124:=zeroValue338
 t138:=underlying414
 a138:=isAgg414
 z138:=sizeOf414
 v138:=zeroValue414
 t139:=underlying415
 a139:=isAgg415
 z139:=sizeOf415
 v139:=zeroValue415
 g3:=kR
 g4:=by kernel_rfl }
open Go.RowKit in
theorem Tryz.strings_TrimLeft_one s c (h:c.toNat<128) w:
 Calls aA 180 #[.string s,.string ⟨#[c]⟩] w fun e w'=>e= .returned (.string ⟨(Lib.trimLeftB s.data.toList c).toArray⟩)∧w'=w:=Any.strings_TrimLeft_one Tryz.lays161 s c h w
def Tryz.lays160_ren:aC:=⟨fun|160=>221|232=>287|231=>235|227=>236|234=>288|233=>237|236=>289|235=>238|228=>240|271=>316|151=>161|197=>279|120=>339|152=>214|260=>307|137=>170|119=>275|224=>276|225=>277|217=>222|266=>290|n=>n,fun|9=>9|4=>4|3=>3|5=>5|117=>335|116=>334|0=>0|124=>338|21=>21|105=>362|46=>161|119=>378|139=>415|138=>414|n=>n,fun|3=>4|4=>5|n=>n⟩
theorem Tryz.lays160:dW aA Tryz.lays160_ren:={
 mixed:=kR
 f119:=func275.trans (zD some kR)
 f120:=func339.trans (zD some kR)
 f137:=func170.trans (zD some kR)
 f151:=func161.trans (zD some kR)
 f152:=func214.trans (zD some kR)
 f160:=func221.trans (zD some kR)
 f197:=func279.trans (zD some kR)
 f217:=func222.trans (zD some kR)
 f224:=func276.trans (zD some kR)
 f225:=func277.trans (zD some kR)
 f227:=func236.trans (zD some kR)
 f228:=func240.trans (zD some kR)
 f231:=func235.trans (zD some kR)
 f232:=func287.trans (zD some kR)
 f233:=func237.trans (zD some kR)
 f234:=func288.trans (zD some kR)
 f235:=func238.trans (zD some kR)
 f236:=func289.trans (zD some kR)
 f260:=func307.trans (zD some kR)
 f266:=func290.trans (zD some kR)
 f271:=func316.trans (zD some kR)
 t0:=underlying0
 a0:=isAgg0
 z0:=sizeOf0
 v0:=zeroValue0
 t3:=underlying3
 a3:=isAgg3
 z3:=sizeOf3
 v3:=zeroValue3
 t4:=underlying4
 a4:=isAgg4
 z4:=sizeOf4
 v4:=zeroValue4
 t5:=underlying5
 a5:=isAgg5
 z5:=sizeOf5
 v5:=zeroValue5
 t9:=underlying9
 a9:=isAgg9
 z9:=sizeOf9
 v9:=zeroValue9
 t21:=underlying21
 a21:=isAgg21
 z21:=sizeOf21
 v21:=zeroValue21
 t46:=underlying161
 a46:=isAgg161
 z46:=sizeOf161
 v46:=zeroValue161
 t105:=underlying362
 a105:=isAgg362
 z105:=sizeOf362
 v105:=zeroValue362
 t116:=underlying334
 a116:=isAgg334
 z116:=sizeOf334
 t117:=underlying335
 a117:=isAgg335
 z117:=sizeOf335
 v117:=zeroValue335
 t119:=underlying378
 a119:=isAgg378
 z119:=sizeOf378
 t124:=underlying338
 a124:=isAgg338
 z124:=sizeOf338
 v124:=zeroValue338
 t138:=underlying414
 a138:=isAgg414
 z138:=sizeOf414
 v138:=zeroValue414
 t139:=underlying415
 a139:=isAgg415
 z139:=sizeOf415
 v139:=zeroValue415
 g3:=kR
 g4:=by kernel_rfl }
def Tryz.lays119_ren:aC:=⟨fun|119=>275|n=>n,fun|21=>21|4=>4|n=>n,fun|n=>n⟩
theorem Tryz.lays119:dX aA Tryz.lays119_ren:={
 mixed:=kR
 f119:=func275.trans (zD some kR)
 t4:=underlying4
 a4:=isAgg4
 z4:=sizeOf4
 v4:=zeroValue4
 t21:=underlying21
 a21:=isAgg21
 z21:=sizeOf21
 v21:=zeroValue21 }
theorem Tryz.utf8_ValidRune r w:
 Calls aA 275 #[.int .i32 r] w fun e w'=>e= .returned (.bool (Lib.validRune r))∧w'=w:=Any.utf8_ValidRune Tryz.lays119 r w
def Tryz.lays106_ren:aC:=⟨fun|106=>35|213=>65|265=>107|n=>n,fun|9=>9|3=>3|n=>n,fun|n=>n⟩
theorem Tryz.lays106:dY aA Tryz.lays106_ren:={
 mixed:=kR
 f106:=func35.trans (zD some kR)
 f213:=func65.trans (zD some kR)
 f265:=func107.trans (zD some kR)
 t3:=underlying3
 a3:=isAgg3
 z3:=sizeOf3
 v3:=zeroValue3
 t9:=underlying9
 a9:=isAgg9
 z9:=sizeOf9
 v9:=zeroValue9 }
open Go.RowKit in
theorem Tryz.strings_Compare a b w:
 Calls aA 35 #[.string a,.string b] w fun e w'=>e= .returned (.int .i64 (Lib.compareBytes a.data.toList b.data.toList))∧w'=w:=Any.strings_Compare Tryz.lays106 a b w
def Tryz.lays137_ren:aC:=⟨fun|137=>170|217=>222|266=>290|n=>n,fun|9=>9|5=>5|3=>3|n=>n,fun|n=>n⟩
theorem Tryz.lays137:dZ aA Tryz.lays137_ren:={
 mixed:=kR
 f137:=func170.trans (zD some kR)
 f217:=func222.trans (zD some kR)
 f266:=func290.trans (zD some kR)
 t3:=underlying3
 a3:=isAgg3
 z3:=sizeOf3
 v3:=zeroValue3
 t5:=underlying5
 a5:=isAgg5
 z5:=sizeOf5
 v5:=zeroValue5
 t9:=underlying9
 a9:=isAgg9
 z9:=sizeOf9
 v9:=zeroValue9 }
open Go.RowKit in
theorem Tryz.strings_IndexByte s c w:
 Calls aA 170 #[.string s,.int .u8 c] w fun e w'=>e= .returned (.int .i64 (aZ s.data.toList c.toNat.toUInt8))∧w'=w:=Any.strings_IndexByte Tryz.lays137 s c w
def Tryz.lays122_ren:aC:=⟨fun|122=>47|215=>82|n=>n,fun|3=>3|4=>4|n=>n,fun|n=>n⟩
theorem Tryz.lays122:eF aA Tryz.lays122_ren:={
 mixed:=kR
 f122:=func47.trans (zD some kR)
 f215:=func82.trans (zD some kR)
 t3:=underlying3
 a3:=isAgg3
 z3:=sizeOf3
 v3:=zeroValue3
 t4:=underlying4
 a4:=isAgg4
 z4:=sizeOf4
 v4:=zeroValue4 }
open Go.RowKit in
theorem Tryz.cmp_Compare_int x y w:
 Calls aA 47 #[.int .i64 x,.int .i64 y] w fun e w'=>e= .returned (.int .i64 (Lib.compareInt x y))∧w'=w:=Any.cmp_Compare_int Tryz.lays122 x y w
def Tryz.lays219_ren:aC:=⟨fun|219=>340|217=>222|225=>277|224=>276|267=>355|266=>290|314=>364|n=>n,fun|9=>9|3=>3|4=>4|5=>5|46=>161|146=>465|51=>227|n=>n,fun|1=>0|n=>n⟩
theorem Tryz.lays219:eG aA Tryz.lays219_ren:={
 mixed:=kR
 f217:=func222.trans (zD some kR)
 f219:=func340.trans (zD some kR)
 f224:=func276.trans (zD some kR)
 f225:=func277.trans (zD some kR)
 f266:=func290.trans (zD some kR)
 f267:=func355.trans (zD some kR)
 f314:=func364.trans (zD some kR)
 t3:=underlying3
 a3:=isAgg3
 z3:=sizeOf3
 v3:=zeroValue3
 t4:=underlying4
 a4:=isAgg4
 z4:=sizeOf4
 v4:=zeroValue4
 t5:=underlying5
 a5:=isAgg5
 z5:=sizeOf5
 v5:=zeroValue5
 t9:=underlying9
 a9:=isAgg9
 z9:=sizeOf9
 v9:=zeroValue9
 t46:=underlying161
 a46:=isAgg161
 z46:=sizeOf161
 v46:=zeroValue161
 t51:=underlying227
 a51:=isAgg227
 z51:=sizeOf227
 v51:=zeroValue227
 t146:=underlying465
 a146:=isAgg465
 z146:=sizeOf465
 v146:=zeroValue465
 g1:=by kernel_rfl }
open Go.RowKit Go.Lib in
theorem Tryz.stringslite_Index_one s c w:
 Calls aA 340 #[.string s,.string ⟨#[c]⟩] w fun e w'=>e= .returned (.int .i64 (aZ s.data.toList c))∧w'=w:=Any.stringslite_Index_one Tryz.lays219 s c w
def Tryz.lays138_ren:aC:=⟨fun|138=>391|195=>392|218=>393|143=>394|219=>340|217=>222|225=>277|224=>276|267=>355|266=>290|314=>364|n=>n,fun|9=>9|3=>3|4=>4|5=>5|0=>0|46=>161|146=>465|51=>227|n=>n,fun|1=>0|n=>n⟩
theorem Tryz.lays138:eH aA Tryz.lays138_ren:={
 mixed:=kR
 f138:=func391.trans (zD some kR)
 f143:=func394.trans (zD some kR)
 f195:=func392.trans (zD some kR)
 f217:=func222.trans (zD some kR)
 f218:=func393.trans (zD some kR)
 f219:=func340.trans (zD some kR)
 f224:=func276.trans (zD some kR)
 f225:=func277.trans (zD some kR)
 f266:=func290.trans (zD some kR)
 f267:=func355.trans (zD some kR)
 f314:=func364.trans (zD some kR)
 t0:=underlying0
 a0:=isAgg0
 z0:=sizeOf0
 v0:=zeroValue0
 t3:=underlying3
 a3:=isAgg3
 z3:=sizeOf3
 v3:=zeroValue3
 t4:=underlying4
 a4:=isAgg4
 z4:=sizeOf4
 v4:=zeroValue4
 t5:=underlying5
 a5:=isAgg5
 z5:=sizeOf5
 v5:=zeroValue5
 t9:=underlying9
 a9:=isAgg9
 z9:=sizeOf9
 v9:=zeroValue9
 t46:=underlying161
 a46:=isAgg161
 z46:=sizeOf161
 v46:=zeroValue161
 t51:=underlying227
 a51:=isAgg227
 z51:=sizeOf227
 v51:=zeroValue227
 t146:=underlying465
 a146:=isAgg465
 z146:=sizeOf465
 v146:=zeroValue465
 g1:=by kernel_rfl }
open Go.RowKit Go.Lib in
theorem Tryz.strings_Count_one s c w:
 Calls aA 391 #[.string s,.string ⟨#[c]⟩] w fun e w'=>e= .returned (.int .i64 (Lib.countByte s.data.toList c))∧w'=w:=Any.strings_Count_one Tryz.lays138 s c w
def Tryz.lays189_ren:aC:=⟨fun|189=>37|125=>67|257=>66|128=>117|129=>118|294=>108|295=>109|296=>110|297=>111|298=>112|299=>113|216=>114|300=>115|301=>116|328=>187|329=>188|330=>189|331=>190|332=>191|215=>82|343=>254|n=>n,fun|28=>39|3=>3|46=>161|0=>0|51=>227|53=>229|4=>4|183=>219|182=>218|131=>224|5=>5|9=>9|218=>285|222=>289|228=>347|229=>348|n=>n,fun|n=>n⟩
theorem Tryz.lays189:eP aA Tryz.lays189_ren:={
 mixed:=kR
 f125:=func67.trans (zD some kR)
 f128:=func117.trans (zD some kR)
 f129:=func118.trans (zD some kR)
 f189:=func37.trans (zD some kR)
 f215:=func82.trans (zD some kR)
 f216:=func114.trans (zD some kR)
 f257:=func66.trans (zD some kR)
 f294:=func108.trans (zD some kR)
 f295:=func109.trans (zD some kR)
 f296:=func110.trans (zD some kR)
 f297:=func111.trans (zD some kR)
 f298:=func112.trans (zD some kR)
 f299:=func113.trans (zD some kR)
 f300:=func115.trans (zD some kR)
 f301:=func116.trans (zD some kR)
 f328:=func187.trans (zD some kR)
 f329:=func188.trans (zD some kR)
 f330:=func189.trans (zD some kR)
 f331:=func190.trans (zD some kR)
 f332:=func191.trans (zD some kR)
 f343:=func254.trans (zD some kR)
 t0:=underlying0
 a0:=isAgg0
 z0:=sizeOf0
 v0:=zeroValue0
 t3:=underlying3
 a3:=isAgg3
 z3:=sizeOf3
 v3:=zeroValue3
 t4:=underlying4
 a4:=isAgg4
 z4:=sizeOf4
 v4:=zeroValue4
 t5:=underlying5
 a5:=isAgg5
 z5:=sizeOf5
 v5:=zeroValue5
 t9:=underlying9
 a9:=isAgg9
 z9:=sizeOf9
 v9:=zeroValue9
 t28:=underlying39
 a28:=isAgg39
 z28:=sizeOf39
 v28:=zeroValue39
 t46:=underlying161
 a46:=isAgg161
 z46:=sizeOf161
 v46:=zeroValue161
 t51:=underlying227
 a51:=isAgg227
 z51:=sizeOf227
 v51:=zeroValue227
 t53:=underlying229
 a53:=isAgg229
 z53:=sizeOf229
 v53:=zeroValue229
 t131:=underlying224
 a131:=isAgg224
 z131:=sizeOf224
 v131:=zeroValue224
 t182:=underlying218
 a182:=isAgg218
 z182:=sizeOf218
 v182:=zeroValue218
 t183:=underlying219
 a183:=isAgg219
 z183:=sizeOf219
 v183:=zeroValue219
 t218:=underlying285
 a218:=isAgg285
 z218:=sizeOf285
 v218:=zeroValue285
 t222:=underlying289
 a222:=isAgg289
 z222:=sizeOf289
 v222:=zeroValue289
 t228:=underlying347
 a228:=isAgg347
 z228:=sizeOf347
 v228:=zeroValue347
 t229:=underlying348
 a229:=isAgg348
 z229:=sizeOf348
 v229:=zeroValue348 }
open Go.Sort Go.RowKit in
theorem Tryz.slices_Sort_int blk off h (zs:List Int) w (O:Holds (aH .i64) w blk off zs.toArray)(A:blk<w.heap.size)(G:zs.length<4611686018427387904):
 Calls aA 37 #[.slice (some ⟨blk,off,none⟩) zs.length h] w fun e w'=>
  e= .returned (.tuple #[])∧∃n os,w'=grow (putRow (aH .i64) (aG w n) blk off (zs.mergeSort fun x y=>decide (x≤y)).toArray) os:=Any.slices_Sort_int Tryz.lays189 blk off h zs w O A G
def Tryz.lays190_ren:aC:=⟨fun|190=>97|125=>67|258=>179|128=>117|129=>118|302=>226|303=>227|304=>228|305=>229|306=>230|307=>231|308=>232|309=>233|310=>234|333=>293|329=>188|330=>189|334=>294|335=>295|336=>260|344=>318|n=>n,fun|31=>144|9=>9|3=>3|46=>161|0=>0|51=>227|53=>229|4=>4|183=>219|182=>218|131=>224|5=>5|218=>285|222=>289|228=>347|229=>348|n=>n,fun|n=>n⟩
theorem Tryz.lays190:eU aA Tryz.lays190_ren:={
 mixed:=kR
 f125:=func67.trans (zD some kR)
 f128:=func117.trans (zD some kR)
 f129:=func118.trans (zD some kR)
 f190:=func97.trans (zD some kR)
 f258:=func179.trans (zD some kR)
 f302:=func226.trans (zD some kR)
 f303:=func227.trans (zD some kR)
 f304:=func228.trans (zD some kR)
 f305:=func229.trans (zD some kR)
 f306:=func230.trans (zD some kR)
 f307:=func231.trans (zD some kR)
 f308:=func232.trans (zD some kR)
 f309:=func233.trans (zD some kR)
 f310:=func234.trans (zD some kR)
 f329:=func188.trans (zD some kR)
 f330:=func189.trans (zD some kR)
 f333:=func293.trans (zD some kR)
 f334:=func294.trans (zD some kR)
 f335:=func295.trans (zD some kR)
 f336:=func260.trans (zD some kR)
 f344:=func318.trans (zD some kR)
 t0:=underlying0
 a0:=isAgg0
 z0:=sizeOf0
 v0:=zeroValue0
 t3:=underlying3
 a3:=isAgg3
 z3:=sizeOf3
 v3:=zeroValue3
 t4:=underlying4
 a4:=isAgg4
 z4:=sizeOf4
 v4:=zeroValue4
 t5:=underlying5
 a5:=isAgg5
 z5:=sizeOf5
 v5:=zeroValue5
 t9:=underlying9
 a9:=isAgg9
 z9:=sizeOf9
 v9:=zeroValue9
 t31:=underlying144
 a31:=isAgg144
 z31:=sizeOf144
 v31:=zeroValue144
 t46:=underlying161
 a46:=isAgg161
 z46:=sizeOf161
 v46:=zeroValue161
 t51:=underlying227
 a51:=isAgg227
 z51:=sizeOf227
 v51:=zeroValue227
 t53:=underlying229
 a53:=isAgg229
 z53:=sizeOf229
 v53:=zeroValue229
 t131:=underlying224
 a131:=isAgg224
 z131:=sizeOf224
 v131:=zeroValue224
 t182:=underlying218
 a182:=isAgg218
 z182:=sizeOf218
 v182:=zeroValue218
 t183:=underlying219
 a183:=isAgg219
 z183:=sizeOf219
 v183:=zeroValue219
 t218:=underlying285
 a218:=isAgg285
 z218:=sizeOf285
 v218:=zeroValue285
 t222:=underlying289
 a222:=isAgg289
 z222:=sizeOf289
 v222:=zeroValue289
 t228:=underlying347
 a228:=isAgg347
 z228:=sizeOf347
 v228:=zeroValue347
 t229:=underlying348
 a229:=isAgg348
 z229:=sizeOf348
 v229:=zeroValue348 }
open Go.Sort Go.RowKit in
theorem Tryz.slices_Sort_string blk off h (ss:List (List UInt8)) w (O:Holds encStr w blk off ss.toArray)(A:blk<w.heap.size)(G:ss.length<4611686018427387904):
 Calls aA 97 #[.slice (some ⟨blk,off,none⟩) ss.length h] w fun e w'=>
  e= .returned (.tuple #[])∧∃n os,w'=grow (putRow encStr (aG w n) blk off (ss.mergeSort fun x y=>decide (x≤y)).toArray) os:=Any.slices_Sort_string Tryz.lays190 blk off h ss w O A G
def Tryz.lays99_ren:aC:=⟨fun|99=>56|206=>99|n=>n,fun|9=>9|4=>4|3=>3|n=>n,fun|n=>n⟩
theorem Tryz.lays99:fM aA Tryz.lays99_ren:={
 mixed:=kR
 f99:=func56.trans (zD some kR)
 f206:=func99.trans (zD some kR)
 t3:=underlying3
 a3:=isAgg3
 z3:=sizeOf3
 v3:=zeroValue3
 t4:=underlying4
 a4:=isAgg4
 z4:=sizeOf4
 v4:=zeroValue4
 t9:=underlying9
 a9:=isAgg9
 z9:=sizeOf9
 v9:=zeroValue9 }
open Go.RowKit Go.Lib in
theorem Tryz.strings_HasPrefix s p w:
 Calls aA 56 #[.string s,.string p] w fun e w'=>e= .returned (.bool (Lib.hasPrefix s.data.toList p.data.toList))∧w'=w:=Any.strings_HasPrefix Tryz.lays99 s p w
def Tryz.lays157_ren:aC:=⟨fun|157=>259|229=>262|199=>302|261=>328|311=>344|312=>345|n=>n,fun|9=>9|31=>144|3=>3|5=>5|4=>4|119=>378|0=>0|40=>257|152=>379|21=>21|154=>381|51=>227|141=>411|196=>438|193=>435|198=>441|49=>439|194=>436|201=>444|226=>460|46=>161|227=>461|n=>n,fun|0=>1|6=>3|n=>n⟩
theorem Tryz.lays157:eX aA Tryz.lays157_ren:={
 mixed:=kR
 f157:=func259.trans (zD some kR)
 f199:=func302.trans (zD some kR)
 f229:=func262.trans (zD some kR)
 f261:=func328.trans (zD some kR)
 f311:=func344.trans (zD some kR)
 f312:=func345.trans (zD some kR)
 t0:=underlying0
 a0:=isAgg0
 z0:=sizeOf0
 v0:=zeroValue0
 t3:=underlying3
 a3:=isAgg3
 z3:=sizeOf3
 v3:=zeroValue3
 t4:=underlying4
 a4:=isAgg4
 z4:=sizeOf4
 v4:=zeroValue4
 t5:=underlying5
 a5:=isAgg5
 z5:=sizeOf5
 v5:=zeroValue5
 t9:=underlying9
 a9:=isAgg9
 z9:=sizeOf9
 v9:=zeroValue9
 t21:=underlying21
 a21:=isAgg21
 z21:=sizeOf21
 v21:=zeroValue21
 t31:=underlying144
 a31:=isAgg144
 z31:=sizeOf144
 v31:=zeroValue144
 t40:=underlying257
 a40:=isAgg257
 z40:=sizeOf257
 v40:=zeroValue257
 t46:=underlying161
 a46:=isAgg161
 z46:=sizeOf161
 v46:=zeroValue161
 t49:=underlying439
 a49:=isAgg439
 z49:=sizeOf439
 v49:=zeroValue439
 t51:=underlying227
 a51:=isAgg227
 z51:=sizeOf227
 v51:=zeroValue227
 t119:=underlying378
 a119:=isAgg378
 z119:=sizeOf378
 t141:=underlying411
 a141:=isAgg411
 z141:=sizeOf411
 v141:=zeroValue411
 t152:=underlying379
 a152:=isAgg379
 z152:=sizeOf379
 v152:=zeroValue379
 t154:=underlying381
 a154:=isAgg381
 z154:=sizeOf381
 v154:=zeroValue381
 t193:=underlying435
 a193:=isAgg435
 z193:=sizeOf435
 v193:=zeroValue435
 t194:=underlying436
 a194:=isAgg436
 z194:=sizeOf436
 v194:=zeroValue436
 t196:=underlying438
 a196:=isAgg438
 z196:=sizeOf438
 v196:=zeroValue438
 t198:=underlying441
 a198:=isAgg441
 z198:=sizeOf441
 v198:=zeroValue441
 t201:=underlying444
 a201:=isAgg444
 z201:=sizeOf444
 v201:=zeroValue444
 t226:=underlying460
 a226:=isAgg460
 z226:=sizeOf460
 v226:=zeroValue460
 t227:=underlying461
 a227:=isAgg461
 z227:=sizeOf461
 v227:=zeroValue461
 g0:=kR
 g6:=by kernel_rfl }
def Tryz.lays152_ren:aC:=⟨fun|152=>214|137=>170|119=>275|224=>276|225=>277|217=>222|266=>290|n=>n,fun|9=>9|21=>21|3=>3|4=>4|5=>5|0=>0|46=>161|n=>n,fun|n=>n⟩
theorem Tryz.lays152:eY aA Tryz.lays152_ren:={
 mixed:=kR
 f119:=func275.trans (zD some kR)
 f137:=func170.trans (zD some kR)
 f152:=func214.trans (zD some kR)
 f217:=func222.trans (zD some kR)
 f224:=func276.trans (zD some kR)
 f225:=func277.trans (zD some kR)
 f266:=func290.trans (zD some kR)
 t0:=underlying0
 a0:=isAgg0
 z0:=sizeOf0
 v0:=zeroValue0
 t3:=underlying3
 a3:=isAgg3
 z3:=sizeOf3
 v3:=zeroValue3
 t4:=underlying4
 a4:=isAgg4
 z4:=sizeOf4
 v4:=zeroValue4
 t5:=underlying5
 a5:=isAgg5
 z5:=sizeOf5
 v5:=zeroValue5
 t9:=underlying9
 a9:=isAgg9
 z9:=sizeOf9
 v9:=zeroValue9
 t21:=underlying21
 a21:=isAgg21
 z21:=sizeOf21
 v21:=zeroValue21
 t46:=underlying161
 a46:=isAgg161
 z46:=sizeOf161
 v46:=zeroValue161 }
open Go.RowKit Go.Lib in
theorem Tryz.strings_IndexRune_ascii s r w (h0:0≤r)(h1:r<128):
 Calls aA 214 #[.string s,.int .i32 r] w fun e w'=>e= .returned (.int .i64 (aZ s.data.toList r.toNat.toUInt8))∧w'=w:=Any.strings_IndexRune_ascii Tryz.lays152 s r w h0 h1
def Tryz.lays151_ren:aC:=⟨fun|151=>161|152=>214|137=>170|119=>275|224=>276|225=>277|217=>222|266=>290|n=>n,fun|9=>9|21=>21|4=>4|3=>3|5=>5|0=>0|46=>161|n=>n,fun|n=>n⟩
theorem Tryz.lays151:fA aA Tryz.lays151_ren:={
 mixed:=kR
 f119:=func275.trans (zD some kR)
 f137:=func170.trans (zD some kR)
 f151:=func161.trans (zD some kR)
 f152:=func214.trans (zD some kR)
 f217:=func222.trans (zD some kR)
 f224:=func276.trans (zD some kR)
 f225:=func277.trans (zD some kR)
 f266:=func290.trans (zD some kR)
 t0:=underlying0
 a0:=isAgg0
 z0:=sizeOf0
 v0:=zeroValue0
 t3:=underlying3
 a3:=isAgg3
 z3:=sizeOf3
 v3:=zeroValue3
 t4:=underlying4
 a4:=isAgg4
 z4:=sizeOf4
 v4:=zeroValue4
 t5:=underlying5
 a5:=isAgg5
 z5:=sizeOf5
 v5:=zeroValue5
 t9:=underlying9
 a9:=isAgg9
 z9:=sizeOf9
 v9:=zeroValue9
 t21:=underlying21
 a21:=isAgg21
 z21:=sizeOf21
 v21:=zeroValue21
 t46:=underlying161
 a46:=isAgg161
 z46:=sizeOf161
 v46:=zeroValue161 }
open Go.RowKit Go.Lib in
theorem Tryz.strings_ContainsRune_ascii s r w (h0:0≤r)(h1:r<128):
 Calls aA 161 #[.string s,.int .i32 r] w fun e w'=>e= .returned (.bool (decide (0≤aZ s.data.toList r.toNat.toUInt8)))∧w'=w:=Any.strings_ContainsRune_ascii Tryz.lays151 s r w h0 h1
def Tryz.lays226_ren:aC:=⟨fun|226=>239|n=>n,fun|3=>3|4=>4|n=>n,fun|n=>n⟩
theorem Tryz.lays226:fB aA Tryz.lays226_ren:={
 mixed:=kR
 f226:=func239.trans (zD some kR)
 t3:=underlying3
 a3:=isAgg3
 z3:=sizeOf3
 v3:=zeroValue3
 t4:=underlying4
 a4:=isAgg4
 z4:=sizeOf4
 v4:=zeroValue4 }
open Go.RowKit Go.Lib in
theorem Tryz.strings_shouldUseASCIISet n w:
 Calls aA 239 #[.int .i64 n] w fun e w'=>e= .returned (.bool (decide (8<n)))∧w'=w:=Any.strings_shouldUseASCIISet Tryz.lays226 n w
def Tryz.lays153_ren:aC:=⟨fun|153=>181|152=>214|226=>239|227=>236|228=>240|137=>170|119=>275|224=>276|225=>277|217=>222|266=>290|n=>n,fun|9=>9|3=>3|4=>4|5=>5|21=>21|117=>335|116=>334|0=>0|46=>161|124=>338|n=>n,fun|n=>n⟩
theorem Tryz.lays153:fC aA Tryz.lays153_ren:={
 mixed:=kR
 f119:=func275.trans (zD some kR)
 f137:=func170.trans (zD some kR)
 f152:=func214.trans (zD some kR)
 f153:=func181.trans (zD some kR)
 f217:=func222.trans (zD some kR)
 f224:=func276.trans (zD some kR)
 f225:=func277.trans (zD some kR)
 f226:=func239.trans (zD some kR)
 f227:=func236.trans (zD some kR)
 f228:=func240.trans (zD some kR)
 f266:=func290.trans (zD some kR)
 t0:=underlying0
 a0:=isAgg0
 z0:=sizeOf0
 v0:=zeroValue0
 t3:=underlying3
 a3:=isAgg3
 z3:=sizeOf3
 v3:=zeroValue3
 t4:=underlying4
 a4:=isAgg4
 z4:=sizeOf4
 v4:=zeroValue4
 t5:=underlying5
 a5:=isAgg5
 z5:=sizeOf5
 v5:=zeroValue5
 t9:=underlying9
 a9:=isAgg9
 z9:=sizeOf9
 v9:=zeroValue9
 t21:=underlying21
 a21:=isAgg21
 z21:=sizeOf21
 v21:=zeroValue21
 t46:=underlying161
 a46:=isAgg161
 z46:=sizeOf161
 v46:=zeroValue161
 t116:=underlying334
 a116:=isAgg334
 z116:=sizeOf334
 t117:=underlying335
 a117:=isAgg335
 z117:=sizeOf335
 v117:=zeroValue335
 t124:=underlying338
 a124:=isAgg338
 z124:=sizeOf338
 v124:=zeroValue338 }
open Go.RowKit Go.Lib in
theorem Tryz.strings_IndexAny_long(G:∀w,(zeroValue 334).run aA w= .ok (.agg (Array.replicate 256 (.bool false))) w) s h w (h2:2≤h.size)(Z:8<s.size)(hs:s.size<4294967281)(O:h.size<4294967281)(A:∀(j:Nat) b,h.data.toList[j]?=some b→b.toNat<128):
 Calls aA 181 #[.string s,.string h] w fun e w'=>e= .returned (.int .i64 (Lib.indexAny s.data.toList h.data.toList))∧w'=((w.alloc (.cells (Lib.setCells h.data.toList) 334)).alloc (.cells (Lib.setCells h.data.toList) 334)):=Any.strings_IndexAny_long Tryz.lays153 G kR s h w h2 Z hs O A
def Tryz.lays260_ren:aC:=⟨fun|260=>307|n=>n,fun|9=>9|21=>21|3=>3|4=>4|5=>5|119=>378|0=>0|46=>161|139=>415|138=>414|n=>n,fun|3=>4|4=>5|n=>n⟩
theorem Tryz.lays260:fD aA Tryz.lays260_ren:={
 mixed:=kR
 f260:=func307.trans (zD some kR)
 t0:=underlying0
 a0:=isAgg0
 z0:=sizeOf0
 v0:=zeroValue0
 t3:=underlying3
 a3:=isAgg3
 z3:=sizeOf3
 v3:=zeroValue3
 t4:=underlying4
 a4:=isAgg4
 z4:=sizeOf4
 v4:=zeroValue4
 t5:=underlying5
 a5:=isAgg5
 z5:=sizeOf5
 v5:=zeroValue5
 t9:=underlying9
 a9:=isAgg9
 z9:=sizeOf9
 v9:=zeroValue9
 t21:=underlying21
 a21:=isAgg21
 z21:=sizeOf21
 v21:=zeroValue21
 t46:=underlying161
 a46:=isAgg161
 z46:=sizeOf161
 v46:=zeroValue161
 t119:=underlying378
 a119:=isAgg378
 z119:=sizeOf378
 t138:=underlying414
 a138:=isAgg414
 z138:=sizeOf414
 v138:=zeroValue414
 t139:=underlying415
 a139:=isAgg415
 z139:=sizeOf415
 v139:=zeroValue415
 g3:=kR
 g4:=by kernel_rfl }
open Go.RowKit Go.Lib in
theorem Tryz.strings_Fields_any s w (hs:s.size<4294967281)(h:Lib.TabIs aA w "strings.asciiSpace" .u8 Lib.asciiSpaceTab)(G:Lib.WhiteTab 3 w):
 Calls aA 259 #[.string s] w fun e w'=>∃A,e= .returned (.slice (some ⟨A,0,none⟩) (aS s.data.toList).length (aS s.data.toList).length)∧w.heap.size≤A∧
  w'.ownsRow w.heap.size 9 1 (.slice (some ⟨A,0,none⟩) (aS s.data.toList).length (aS s.data.toList).length) (aS s.data.toList).length ((aS s.data.toList).map fun x=>dQ ⟨x.toArray⟩)∧Below w.heap.size w w':=Any.strings_Fields_any Tryz.lays157 kR kR kR s w hs h G
def Tryz.lays229_ren:aC:=⟨fun|229=>262|n=>n,fun|9=>9|40=>257|31=>144|152=>379|3=>3|0=>0|4=>4|21=>21|154=>381|n=>n,fun|n=>n⟩
theorem Tryz.lays229:fE aA Tryz.lays229_ren:={
 mixed:=kR
 f229:=func262.trans (zD some kR)
 t0:=underlying0
 a0:=isAgg0
 z0:=sizeOf0
 v0:=zeroValue0
 t3:=underlying3
 a3:=isAgg3
 z3:=sizeOf3
 v3:=zeroValue3
 t4:=underlying4
 a4:=isAgg4
 z4:=sizeOf4
 v4:=zeroValue4
 t9:=underlying9
 a9:=isAgg9
 z9:=sizeOf9
 v9:=zeroValue9
 t21:=underlying21
 a21:=isAgg21
 z21:=sizeOf21
 v21:=zeroValue21
 t31:=underlying144
 a31:=isAgg144
 z31:=sizeOf144
 v31:=zeroValue144
 t40:=underlying257
 a40:=isAgg257
 z40:=sizeOf257
 v40:=zeroValue257
 t152:=underlying379
 a152:=isAgg379
 z152:=sizeOf379
 v152:=zeroValue379
 t154:=underlying381
 a154:=isAgg381
 z154:=sizeOf381
 v154:=zeroValue381 }
def Tryz.lays230_ren:aC:=⟨fun|230=>217|197=>279|118=>280|165=>215|166=>175|168=>281|270=>282|167=>216|169=>177|260=>307|240=>225|241=>278|242=>308|276=>292|277=>306|278=>330|n=>n,fun|107=>307|9=>9|72=>271|0=>0|4=>4|3=>3|21=>21|105=>362|76=>275|5=>5|75=>274|70=>269|20=>20|37=>262|127=>326|119=>378|46=>161|139=>415|138=>414|164=>371|51=>227|80=>35|n=>n,fun|3=>4|4=>5|n=>n⟩
theorem Tryz.lays230:fF aA Tryz.lays230_ren:={
 mixed:=kR
 f118:=func280.trans (zD some kR)
 f165:=func215.trans (zD some kR)
 f166:=func175.trans (zD some kR)
 f167:=func216.trans (zD some kR)
 f168:=func281.trans (zD some kR)
 f169:=func177.trans (zD some kR)
 f197:=func279.trans (zD some kR)
 f230:=func217.trans (zD some kR)
 f240:=func225.trans (zD some kR)
 f241:=func278.trans (zD some kR)
 f242:=func308.trans (zD some kR)
 f260:=func307.trans (zD some kR)
 f270:=func282.trans (zD some kR)
 f276:=func292.trans (zD some kR)
 f277:=func306.trans (zD some kR)
 f278:=func330.trans (zD some kR)
 t0:=underlying0
 a0:=isAgg0
 z0:=sizeOf0
 v0:=zeroValue0
 t3:=underlying3
 a3:=isAgg3
 z3:=sizeOf3
 v3:=zeroValue3
 t4:=underlying4
 a4:=isAgg4
 z4:=sizeOf4
 v4:=zeroValue4
 t5:=underlying5
 a5:=isAgg5
 z5:=sizeOf5
 v5:=zeroValue5
 t9:=underlying9
 a9:=isAgg9
 z9:=sizeOf9
 v9:=zeroValue9
 t20:=underlying20
 a20:=isAgg20
 z20:=sizeOf20
 v20:=zeroValue20
 t21:=underlying21
 a21:=isAgg21
 z21:=sizeOf21
 v21:=zeroValue21
 t37:=underlying262
 a37:=isAgg262
 z37:=sizeOf262
 v37:=zeroValue262
 t46:=underlying161
 a46:=isAgg161
 z46:=sizeOf161
 v46:=zeroValue161
 t51:=underlying227
 a51:=isAgg227
 z51:=sizeOf227
 v51:=zeroValue227
 t70:=underlying269
 a70:=isAgg269
 z70:=sizeOf269
 v70:=zeroValue269
 t72:=underlying271
 a72:=isAgg271
 z72:=sizeOf271
 v72:=zeroValue271
 t75:=underlying274
 a75:=isAgg274
 z75:=sizeOf274
 v75:=zeroValue274
 t76:=underlying275
 a76:=isAgg275
 z76:=sizeOf275
 v76:=zeroValue275
 t105:=underlying362
 a105:=isAgg362
 z105:=sizeOf362
 v105:=zeroValue362
 t107:=underlying307
 a107:=isAgg307
 z107:=sizeOf307
 v107:=zeroValue307
 t119:=underlying378
 a119:=isAgg378
 z119:=sizeOf378
 t127:=underlying326
 a127:=isAgg326
 z127:=sizeOf326
 v127:=zeroValue326
 t138:=underlying414
 a138:=isAgg414
 z138:=sizeOf414
 v138:=zeroValue414
 t139:=underlying415
 a139:=isAgg415
 z139:=sizeOf415
 v139:=zeroValue415
 t164:=underlying371
 a164:=isAgg371
 z164:=sizeOf371
 v164:=zeroValue371
 g3:=kR
 g4:=by kernel_rfl }
theorem Tryz.Builder_Extra_230:bV aA Tryz.lays230_ren:={
 sizeBuilder:=kR
 liesBuilder:=kR
 t5:=underlying5
 a5:=isAgg5
 z5:=sizeOf5
 v5:=zeroValue5
 infoByte:=kR
 cellsByte:=kR
 sizeByte:=kR
 neB5:=by decide }
open Go.RowKit Go.Lib in
theorem Tryz.strings_FieldsFunc_grows g h (eg:∀args w,(callFunc g args).run aA w= .ok (.enter g args) w) p s w (hs:s.size≤4294967296)(G:PredGrows aA g h p w):
 Calls aA 262 #[.string s,.func (.func g) #[] h] w fun e w'=>∃A,e= .returned (.slice (some ⟨A,0,none⟩) (aK p s).length (aK p s).length)∧w.heap.size≤A∧
  w'.ownsRow w.heap.size 9 1 (.slice (some ⟨A,0,none⟩) (aK p s).length (aK p s).length) (aK p s).length ((aK p s).map dQ)∧Below w.heap.size w w':=Any.strings_FieldsFunc_grows Tryz.lays229 g h eg p s w hs G kR kR
open Go.RowKit Go.Lib in
theorem Tryz.strings_Map_grows g h (eg:∀args w,(callFunc g args).run aA w= .ok (.enter g args) w) f s w (hs:s.size<35184372088832)(hf:MapGrows aA g h f w)(A:∀x:Nat,x≤1114111→ -2147483648≤f x∧f x≤2147483647)(G:Lib.Utf8Tabs 4 5 w):
 Calls aA 217 #[.func (.func g) #[] h,.string s] w fun e w'=>e= .returned (.string ⟨(Lib.mapD f s.data.toList).toArray⟩)∧Below w.heap.size w w':=Any.strings_Map_grows Tryz.lays230 Tryz.Builder_Extra_230 g h eg f s w hs hf A G
def Tryz.lays109_ren:aC:=⟨fun|109=>193|n=>n,fun|31=>144|9=>9|3=>3|0=>0|4=>4|n=>n,fun|n=>n⟩
theorem Tryz.lays109:fG aA Tryz.lays109_ren:={
 mixed:=kR
 f109:=func193.trans (zD some kR)
 t0:=underlying0
 a0:=isAgg0
 z0:=sizeOf0
 v0:=zeroValue0
 t3:=underlying3
 a3:=isAgg3
 z3:=sizeOf3
 v3:=zeroValue3
 t4:=underlying4
 a4:=isAgg4
 z4:=sizeOf4
 v4:=zeroValue4
 t9:=underlying9
 a9:=isAgg9
 z9:=sizeOf9
 v9:=zeroValue9
 t31:=underlying144
 a31:=isAgg144
 z31:=sizeOf144
 v31:=zeroValue144 }
open Go.Lib in
theorem Tryz.slices_Index_string b off n c (zs:List ByteArray) x w (hz:n≤zs.length)(h:n≤9223372036854775807)(A:∀j,j<zs.length→w.cell? ⟨b,off+j,none⟩=some (.string (zs.getD j dF))):
 Calls aA 193 #[.slice (some ⟨b,off,none⟩) n c,.string x] w fun e w'=>e= .returned (.int .i64 (Lib.idxOfS (zs.take n) x))∧w'=w:=Any.slices_Index_string Tryz.lays109 b off n c zs x w hz h A
def Tryz.lays110_ren:aC:=⟨fun|110=>124|109=>193|n=>n,fun|31=>144|9=>9|4=>4|3=>3|0=>0|n=>n,fun|n=>n⟩
theorem Tryz.lays110:fH aA Tryz.lays110_ren:={
 mixed:=kR
 f109:=func193.trans (zD some kR)
 f110:=func124.trans (zD some kR)
 t0:=underlying0
 a0:=isAgg0
 z0:=sizeOf0
 v0:=zeroValue0
 t3:=underlying3
 a3:=isAgg3
 z3:=sizeOf3
 v3:=zeroValue3
 t4:=underlying4
 a4:=isAgg4
 z4:=sizeOf4
 v4:=zeroValue4
 t9:=underlying9
 a9:=isAgg9
 z9:=sizeOf9
 v9:=zeroValue9
 t31:=underlying144
 a31:=isAgg144
 z31:=sizeOf144
 v31:=zeroValue144 }
open Go.Lib in
theorem Tryz.slices_Contains_string b off n c (zs:List ByteArray) x w (hz:n≤zs.length)(h:n≤9223372036854775807)(A:∀j,j<zs.length→w.cell? ⟨b,off+j,none⟩=some (.string (zs.getD j dF))):
 Calls aA 124 #[.slice (some ⟨b,off,none⟩) n c,.string x] w fun e w'=>e= .returned (.bool (Lib.containsS (zs.take n) x))∧w'=w:=Any.slices_Contains_string Tryz.lays110 b off n c zs x w hz h A
def Tryz.laysNm220_ren:aC:=⟨fun|20=>38|n=>n,fun|22=>39|3=>3|4=>4|0=>0|n=>n,fun|n=>n⟩
theorem Tryz.laysNm220:fJ aA Tryz.laysNm220_ren:={
 mixed:=kR
 f20:=func38.trans (zD some kR)
 t0:=underlying0
 a0:=isAgg0
 z0:=sizeOf0
 v0:=zeroValue0
 t3:=underlying3
 a3:=isAgg3
 z3:=sizeOf3
 v3:=zeroValue3
 t4:=underlying4
 a4:=isAgg4
 z4:=sizeOf4
 v4:=zeroValue4
 t22:=underlying39
 a22:=isAgg39
 z22:=sizeOf39
 v22:=zeroValue39
 i3:=by kernel_rfl }
open Go.RowKit Go.Lib Go.Sort in
theorem Tryz.slices_Compact_int blk off h zs w (O:Holds (aH .i64) w blk off zs.toArray)(G:zs.length≤9223372036854775807)(A:zs.length≤h):
 Calls aA 38 #[.slice (some ⟨blk,off,none⟩) zs.length h] w fun e w'=>e= .returned (.slice (some ⟨blk,off,none⟩) (aT zs).length h)∧∃q,w'=putRow (aH .i64) (aG w q) blk off (aT zs++dK (zs.length-(aT zs).length) 0).toArray:=Any.slices_Compact_int Tryz.laysNm220 blk off h zs w O G A
open Go.RowKit Go.Lib Go.Sort in
theorem Tryz.slices_Compact_int_empty a h w:
 Calls aA 38 #[.slice a 0 h] w fun e w'=>e= .returned (.slice a 0 h)∧w'=w:=Any.slices_Compact_int_empty Tryz.laysNm220 a h w
def Tryz.lays194_ren:aC:=⟨fun|194=>98|n=>n,fun|31=>144|9=>9|3=>3|4=>4|0=>0|n=>n,fun|n=>n⟩
theorem Tryz.lays194:fK aA Tryz.lays194_ren:={
 mixed:=kR
 f194:=func98.trans (zD some kR)
 t0:=underlying0
 a0:=isAgg0
 z0:=sizeOf0
 v0:=zeroValue0
 t3:=underlying3
 a3:=isAgg3
 z3:=sizeOf3
 v3:=zeroValue3
 t4:=underlying4
 a4:=isAgg4
 z4:=sizeOf4
 v4:=zeroValue4
 t9:=underlying9
 a9:=isAgg9
 z9:=sizeOf9
 v9:=zeroValue9
 t31:=underlying144
 a31:=isAgg144
 z31:=sizeOf144
 v31:=zeroValue144 }
open Go.RowKit Go.Lib Go.Sort in
theorem Tryz.slices_Compact_string blk off h zs w (O:Holds encStr w blk off zs.toArray)(G:zs.length≤9223372036854775807)(A:zs.length≤h):
 Calls aA 98 #[.slice (some ⟨blk,off,none⟩) zs.length h] w fun e w'=>e= .returned (.slice (some ⟨blk,off,none⟩) (aT zs).length h)∧∃q,w'=putRow encStr (aG w q) blk off (aT zs++dK (zs.length-(aT zs).length) []).toArray:=Any.slices_Compact_string Tryz.lays194 blk off h zs w O G A
open Go.RowKit Go.Lib Go.Sort in
theorem Tryz.slices_Compact_string_empty a h w:
 Calls aA 98 #[.slice a 0 h] w fun e w'=>e= .returned (.slice a 0 h)∧w'=w:=Any.slices_Compact_string_empty Tryz.lays194 a h w
open Go.RowKit Go.Sort in
theorem Tryz.slices_Sort_string_none p h w:
 Calls aA 97 #[.slice p 0 h] w fun e w'=>e= .returned (.tuple #[])∧w'=w:=Any.slices_Sort_string_none Tryz.lays190 p h w
open Go.RowKit Go.Sort in
theorem Tryz.slices_Sort_int_none p h w:
 Calls aA 37 #[.slice p 0 h] w fun e w'=>e= .returned (.tuple #[])∧w'=w:=Any.slices_Sort_int_none Tryz.lays189 p h w
def Tryz.laysSlE041_f36_ren:aC:=⟨fun|41=>36|n=>n,fun|22=>39|23=>3|4=>4|n=>n,fun|n=>n⟩
theorem Tryz.laysSlE041_f36:dR aA Tryz.laysSlE041_f36_ren:={
 mixed:=kR
 f41:=⟨Tryz.f36.name,dE,func36.trans (zD some kR)⟩
 t4:=underlying4
 a4:=isAgg4
 z4:=sizeOf4
 v4:=zeroValue4
 t22:=underlying39
 a22:=isAgg39
 z22:=sizeOf39
 v22:=zeroValue39 }
open Go.RowKit Go.Lib in
theorem Tryz.slices_Clone G z size A (hi:aA.info? 3=some G)(a0:G.zero=some z)(a1:G.size=size)(a2:G.bytes=A)(a3:z.cells.size=size)(a4:0<size)(a5:∀w,(Go.sizeOf 3).run aA w= .ok size w) b off n c h w (hl:h.length=n*size)(hn:n≤maxLen)(O:n*A≤140737488355328)(hc:∀j u,h[j]?=some u→w.cell? ⟨b,off+j,none⟩=some u)(h1:∀u∈h,u.oneCell'=true):
 Calls aA 36 #[.slice (some ⟨b,off,none⟩) n c] w fun e w'=>∃Z,e= .returned Z∧w'.ownsRow w.heap.size 3 size Z n h∧Z≠ .slice none 0 0∧Below w.heap.size w w':=AnyE.slices_Clone Tryz.laysSlE041_f36 G z size A hi a0 a1 a2 a3 a4 a5 b off n c h w hl hn O hc h1
open Go.RowKit Go.Lib in
theorem Tryz.slices_Clone_nil n c w:
 Calls aA 36 #[.slice none n c] w fun e w'=>e= .returned (.slice none 0 0)∧w'=w:=AnyE.slices_Clone_nil Tryz.laysSlE041_f36 n c w
end Go.Proofs
section
namespace Go.Sx
theorem c5Q l:(EP l).all dL=true:=by simp[EP,u8,dL]
theorem c2k x sp:(EP x++sp).take (x.length*1)=EP x:=by rw[cZ,←PG x];exact dM
end Go.Sx
namespace Go.Proofs.YtojdemmgkdokmaaGreatDoor
open Go Go.Sx
theorem a7v{G o e}{S:World→Prop}{x y}{T E b off n c sz j:Nat}{kl}(O:o.op= .slice T x (some y) none none)(Z:ev e x=some (.slice (some ⟨b,off,Option.none⟩) n c))(hy:ev e y=some (.int kl (j:Int)))(hu:G.P.underlying T=some (.slice E))(A:∀w,(sizeOf E).run G.P w= .ok sz w)(hj:j≤n)(hc:j≤c):
 DK G o e S (.slice (some ⟨b,if c=j then off else off+j*sz,none⟩) (n-j) (c-j)):=by
 by_cases h:c=j
 ·intro a w ha _;have h1:(j:Int)≤n:=oM;simp[execOp,O,ha.eval Z,ha.eval hy,Instr.sliceAt,Instr.slice,run_underlying hu,Instr.sliceBounds,run_sliceBound,h1,A,h]
 rw[zF h];exact b1v O Z hy hu A hj oM
theorem zM.none{α:Type}{l:List α}{i}(h:i≤l.length):zM l i [] l:=⟨by simpa using h,sI⟩
theorem c6J{E x n}(h:E.length+x.length≤n):zM (buf E n) (if n=E.length then 0 else 0+E.length*1) (EP x) (buf (E++x) n):=by
 by_cases hc:n=E.length
 ·have:x=[]:=List.length_eq_zero_iff.1 oM;subst this;rw[zG hc,dG];exact zM.none (aX _)
 rw[zF hc,bW,cZ];exact c5I h
theorem c2I s c I:Pure aA 391 [str s,str [c]] I (i64 (s.count c)):=
 Pure.of_same (Enters.of Tryz.func391 dE rfl) fun w _=>by
  have h:=Tryz.strings_Count_one ⟨s.toArray⟩ c w;rw[IY]at h;exact h
end Go.Proofs.YtojdemmgkdokmaaGreatDoor
end
namespace Rp
abbrev Tb:=UInt8→Option (List UInt8)
def one (r:Tb) (c:UInt8):List UInt8:=(r c).getD [c]
def rep (r:Tb) (s:List UInt8):List UInt8:=s.flatMap (one r)
def two (a:UInt8) (x:List UInt8) (b:UInt8) (y:List UInt8):Tb:=fun c=>if c=a then some x else if c=b then some y else none
def w (r:Tb) (c:UInt8):Int:=(one r c).length-1
def gain (r:Tb) (s:List UInt8):Int:=(s.map (w r)).sum
def hits (r:Tb) (s:List UInt8):Nat:=s.countP fun c=>(r c).isSome
theorem a6J r s:((rep r s).length:Int)=s.length+gain r s:=by
 induction s with
 |nil=>rfl
 |cons c s h=>
  have h1:(rep r (c::s)).length=(one r c).length+(rep r s).length:=by simp[rep]
  have h2:gain r (c::s)=w r c+gain r s:=by simp[gain]
  rw[h1,h2,bH];unfold w;omega
theorem b2r{r}:∀{s:List UInt8},hits r s=0→rep r s=s
 |[],_=>rfl
 |c::s,h=>by
  unfold hits at h;rw[dB]at h;have A:r c=none:=by
   cases hr:r c with
   |none=>rfl
   |some x=>rw[hr]at h;simp at h
  have:=b2r (r:=r) (s:=s) (by unfold hits;omega);show one r c++rep r s=c::s;rw[this];unfold one;rw[A];rfl
theorem RN{s:List UInt8}{k c}(h:s[k]?=some c):s.take (k+1)=s.take k++[c]:=by
 rw[List.take_add_one,h];rfl
theorem c2R r {s:List UInt8}{k c}(h:s[k]?=some c):rep r (s.take (k+1))=rep r (s.take k)++one r c:=by
 rw[RN h];simp[rep]
theorem b9F r {s:List UInt8}{k c}(h:s[k]?=some c):gain r (s.take (k+1))=gain r (s.take k)+w r c:=by
 rw[RN h];simp[gain]
theorem c0F r {s:List UInt8}{k c}(h:s[k]?=some c):hits r (s.take (k+1))=hits r (s.take k)+if (r c).isSome then 1 else 0:=by
 rw[RN h];simp[hits,List.countP_append,dB]
theorem b2y r s k:(rep r (s.take k)).length≤(rep r s).length:=by
 have h:rep r s=rep r (s.take k)++rep r (s.drop k):=by
  unfold rep;rw[←List.flatMap_append,List.take_append_drop]
 rw[h,aY];omega
def Two (r:Tb):Prop:=∀c x,r c=some x→x.length≤2
theorem b7h{r}(h:Two r) c: -1≤w r c∧w r c≤1:=by
 unfold w one;cases hr:r c with
 |none=>simp
 |some x=>have:=h c x hr;simp;omega
theorem a6I{r}(h:Two r):∀s:List UInt8,-(s.length:Int)≤gain r s∧gain r s≤s.length
 |[]=>by simp[gain]
 |c::s=>by
  have h1:=a6I h s;have h2:=b7h h c;simp only[gain,bC,bD,bH]at h1 ⊢;omega
def cg (r:Tb) (s:List UInt8) (ks:List UInt8):Int:=(ks.map fun k=>(s.count k:Int)*w r k).sum
def cn (s:List UInt8) (ks:List UInt8):Nat:=(ks.map fun k=>s.count k).sum
theorem c4E r s {ks:List UInt8}{i k}(h:ks[i]?=some k):cg r s (ks.take (i+1))=cg r s (ks.take i)+s.count k*w r k:=by
 rw[RN h];simp[cg]
theorem c4y s {ks:List UInt8}{i k}(h:ks[i]?=some k):cn s (ks.take (i+1))=cn s (ks.take i)+s.count k:=by
 rw[RN h];simp[cn]
theorem b5K r c s:∀(ks:List UInt8),ks.Nodup→cg r (c::s) ks=cg r s ks+if c∈ks then w r c else 0
 |[],_=>by simp[cg]
 |k::ks,h=>by
  obtain⟨h1,h2⟩:=List.nodup_cons.1 h;have A:=b5K r c s ks h2;simp only[cg,bC,bD,List.count_cons]at A ⊢
  by_cases hk:c=k
  ·subst hk;rw[zF h1]at A;simp only[beq_self_eq_true,if_true,dP,true_or];rw[A]
   push_cast
   rw[Int.add_mul];omega
  have G:(c == k)=false:=by simpa using hk
  simp only[G,dP,hk,false_or];rw[A];simp;omega
theorem b8S{r ks}(hn:ks.Nodup)(A:∀c,c∈ks↔(r c).isSome=true):∀s:List UInt8,cg r s ks=gain r s
 |[]=>by
  have h:∀l:List UInt8,(l.map fun k=>(([]:List UInt8).count k:Int)*w r k).sum=0:=fun l=>by
   induction l with
   |nil=>rfl
   |cons k l G=>rw[bC,bD,G];simp
  exact h ks
 |c::s=>by
  rw[b5K r c s ks hn,b8S hn A s];simp only[gain,bC,bD]
  by_cases h:c∈ks
  ·rw[zG h];omega
  rw[zF h];have:r c=none:=by
   cases hr:r c with
   |none=>rfl
   |some x=>exact absurd ((A c).2 (by rw[hr];rfl)) h
  have O:w r c=0:=by unfold w one;rw[this];rfl
  omega
theorem b8u{r}(h:Two r){s}(hs:s.length≤1000000000):∀ks:List UInt8,-(ks.length*1000000000:Int)≤cg r s ks∧cg r s ks≤ks.length*1000000000
 |[]=>by simp[cg]
 |k::ks=>by
  have h1:=b8u h hs ks;have h2:=b7h h k;have h3:s.count k≤s.length:=aV;have A:cg r s (k::ks)=s.count k*w r k+cg r s ks:=by simp[cg]
  have G:w r k= -1∨w r k=0∨w r k=1:=oM;rw[A,bH];rcases G with e|e|e<;>rw[e]<;>omega
theorem mul_two{r}(h:Two r){s:List UInt8}(hs:s.length≤1000000000) k: -1000000000≤s.count k*w r k∧s.count k*w r k≤1000000000:=by
 have h2:=b7h h k;have h3:s.count k≤s.length:=aV;have A:w r k= -1∨w r k=0∨w r k=1:=oM;rcases A with e|e|e<;>rw[e]<;>omega
theorem c5r{r ks}(G:∀c,c∈ks↔(r c).isSome=true){s}(h:cn s ks=0):hits r s=0:=by
 have h0:∀k∈ks,s.count k=0:=by
  intro k A;unfold cn at h;exact List.sum_eq_zero_iff_forall_eq_nat.1 h _ (List.mem_map_of_mem A)
 unfold hits;rw[List.countP_eq_zero];intro c O hs;have:=h0 c ((G c).2 hs);rw[List.count_eq_zero]at this;exact this O
end Rp
namespace Go.Sx
open Go Go.Sort Go.Proofs
theorem a9O{w b T}{l:List (List UInt8)}{sp}(h:w.heap[b]?=some (yY T (l.map str++sp))):Holds encStr w b 0 l.toArray:=fun j A=>by
 have G:j<l.length:=by simpa using A
 have h1:(l.map str++sp)[j]?=some (str l[j]):=JO (aO G);have h2:l.toArray[j]! =l[j]:=by rw[getElem!_pos _ j A];simp
 refine⟨?_,?_⟩
 ·rw[h2];simp only[World.cell?,h,yY,bW];simpa[str]using h1
 simp only[World.frozen?,h,yY];simp
theorem c5b{l l':List (List UInt8)}{sp}(A:l'.length=l.length):putCells encStr 0 l'.toArray (l.map str++sp).toArray=(l'.map str++sp).toArray:=by
 apply Array.ext_getElem?
 intro k;simp only[putCells,Array.getElem?_mapIdx,List.getElem?_toArray,List.size_toArray,aX,true_and,bW,Nat.sub_zero];rcases Nat.lt_or_ge k l.length with h|h
 ·have h1:(l.map str++sp)[k]?=some (str l[k]):=JO (aO h);have h2:(l'.map str++sp)[k]?=some (str (l'[k]'oM)):=JO (aO oM);have h3:l'.toArray[k]! =l'[k]'oM:=by rw[getElem!_pos _ k (by simpa using(oM:k<l'.length))];simp
  rw[h1,h2,bM,zG oM,h3];rfl
 rw[bF (by simpa using h),bF (by simp;omega),bP,bP,A];cases sp[k-l.length]? with
 |none=>rfl
 |some v=>rw[bM,zF oM]
theorem St.row{w I b T}{l l':List (List UInt8)}{sp} n os (hr:Ready I [(b,yY T (l.map str++sp))] w)(hl:l'.length=l.length):
 St w [b] I I [(b,yY T (l'.map str++sp))] (grow (putRow encStr (aG w n) b 0 l'.toArray) os):=by
 obtain⟨r1,r2,_,r4⟩:=hr;have hb:=r2 _ (aI.2 rfl);have O:∀{c:Nat} {o':Obj},w.heap[c]?=some o'→c<w.heap.size:=fun {c o'} h=>by
  rcases Nat.lt_or_ge c w.heap.size with Z|Z
  ·exact Z
  simp[Array.getElem?_eq_none Z]at h
 have a2:(putRow encStr (aG w n) b 0 l'.toArray).heap.size=w.heap.size:=by simp[putRow,mapBlock,aG]
 have A:∀c,c<w.heap.size→c≠b→(grow (putRow encStr (aG w n) b 0 l'.toArray) os).heap[c]?=w.heap[c]?:=fun c h a1=>by
  simp only[grow];rw[bG oM];simp only[putRow,mapBlock,aG,bQ,zF (Ne.symm a1)]
 have a0:(grow (putRow encStr (aG w n) b 0 l'.toArray) os).heap[b]?=some (yY T (l'.map str++sp)):=by
  have a3:=O hb;simp only[grow];rw[bG oM];simp only[putRow,mapBlock,aG,bQ,if_true];rw[hb];simp only[bM,onCells,yY];rw[c5b hl]
 refine⟨rfl,rfl,rfl,?_,?_,?_,?_,sI,?_,?_,fun _ _=>rfl,Le.refl _,a2j⟩
 ·simp only[grow,Array.size_append];omega
 ·intro c h hd;exact A c h (by simpa using hd)
 ·intro c o h;have h1:=r1 c o h;refine(A c (O h1) ?_).trans h1;rintro rfl;have:=r4 _ (aI.2 rfl);rw[this]at h;cases h
 ·intro p G;rw[aI.1 G];exact a0
 ·intro p G;rw[aI.1 G];exact r4 (b,yY T (l.map str++sp)) (aI.2 rfl)
 intro p G;rw[aI.1 G];exact .inl (.head _)
end Go.Sx
namespace Go.Sx
open Go
theorem b2N{α:Type}{f:α→List Value}{n:Nat}(hf:∀x,(f x).length=n){sp:List Value}:∀{l:List α} {k:Nat} {x:α},l[k]?=some x→((l.flatMap f++sp).drop (k*n)).take n=f x
 |[],_,_,h=>by simp at h
 |y::l,0,x,h=>by
  simp at h;subst h;rw[Nat.zero_mul,bT,bZ,cO,←hf y,dM]
 |y::l,k+1,x,h=>by
  have A:l[k]?=some x:=by simpa using h
  have:=b2N hf (sp:=sp) A;rw[bZ,cO,show(k+1)*n=(f y).length+k*n by rw[hf y,Nat.add_mul];omega,←dN,List.drop_left];exact this
theorem XC{α:Type}{f:α→List Value}{n:Nat}(hf:∀x,(f x).length=n){sp:List Value}{l:List α}{k:Nat}{x:α}(h:l[k]?=some x)(j:Nat)(A:j<n):(l.flatMap f++sp)[k*n+j]?=(f x)[j]?:=by
 rw[←b2N hf (sp:=sp) h,List.getElem?_take,zG A,bY]
theorem EJ{α:Type}{f n}(hf:∀x,(f x).length=n){cs sp:List Value}{o}{l:List α}(h:cs.drop o=l.flatMap f++sp){k x}(A:l[k]?=some x):(cs.drop (o+k*n)).take n=f x:=by
 rw[←dN,h];exact b2N hf A
theorem GU{α:Type}{f n}(hf:∀x,(f x).length=n){cs sp:List Value}{o}{l:List α}(h:cs.drop o=l.flatMap f++sp){k x}(A:l[k]?=some x) j (G:j<n):cs[o+k*n+j]?=(f x)[j]?:=by
 rw[←XC hf (sp:=sp) A j G,←h,bY,Nat.add_assoc]
def zY {α:Type} (f:α→List Value) (I:Heap) (l:List α) (v:Value):Prop:=
 ∃p c,v= .slice p l.length c∧l.length≤c∧(l≠[]→∃b o cs t fr sp,p=some ⟨b,o,none⟩∧I b=some (.cells (List.toArray cs) t fr)∧cs.drop o=l.flatMap f++sp)
theorem zY.mono{α:Type}{f:α→List Value}{I A:Heap}{l:List α}{v:Value}(h:zY f I l v)(G:Le I A):zY f A l v:=
 let ⟨p,c,h1,h2,h3⟩:=h;⟨p,c,h1,h2,fun hn=>let ⟨b,o,cs,t,fr,sp,O,Z,h6⟩:=h3 hn;⟨b,o,cs,t,fr,sp,O,G _ _ Z,h6⟩⟩
theorem zY.of{α:Type}{f:α→List Value}{I:Heap}{l:List α}{T b c:Nat}{sp:List Value}(h:l.length≤c)(A:I b=some (yY T (l.flatMap f++sp))):zY f I l (.slice (some ⟨b,0,none⟩) l.length c):=
 ⟨_,c,rfl,h,fun _=>⟨b,0,_,T,_,sp,rfl,A,rfl⟩⟩
theorem zY.nil{α:Type}{f I}:zY f I ([]:List α) (.slice none 0 0):=⟨none,0,rfl,Nat.le_refl _,fun h=>absurd rfl h⟩
theorem AX{α:Type}{l:List α}{k}(h:k<l.length):l≠[]:=fun e=>by rw[e]at h;simp at h
theorem Cj.join{h Q x y e I H}{ι:Type}(A:ι→Prop)(G:ι→Env)(Z:ι→Heap)(hl:ι→HL)(k2:∀i,A i→Cj h Q y (G i) (Z i) (hl i))
 (k1:(∀j e' O H',A j→Sub (G j) e'→Z j=O→hl j=H'→Ej h (Exit.then (y.wpIn h.F 0 h.P Q) Q) .normal e' O H')→Cj h (Exit.then (y.wpIn h.F 0 h.P Q) Q) x e I H):Cj h Q (.seq x y) e I H:=
 bI (k1 fun j e' O H' hj hs hI hH=>aN (by subst hI hH;exact Cj.weak hs (k2 j hj)))
theorem Ej.c3J{h fn}{A:Ending→Heap→HL→Prop}{e I H H' t G T b n x}{cs:List Value}{ty fr}(hk:Keeps H' H)(hr:fn.results= #[.tmp G,.cell t T])(Z:h.ds=[])(hv:eg e t=some (ptr b 0))
 (hb:yR (SS I H) b (.cells cs.toArray ty fr))(a0:∀w,(isAgg T).run h.P w= .ok true w)(a1:∀w,(sizeOf T).run h.P w= .ok n w)(hn:cs.length=n)(hx:eg e G=some x)(hp:A (.returned (.tuple #[x,.agg cs.toArray])) I H'):
 Ej h (bodyPost h.P fn (RR h.w0 h.D h.I0 A)) .ret e I H:=by
 intro a w O hs;refine⟨O.defs.trans Z,_,?_,I,H',hs.sublist hk,hp⟩;have h1:=O.get t _ hv;have h3:=O.get G _ hx;have hc:∀j v,cs[j]?=some v→w.cell? ((⟨b,0,none⟩:Addr).add j)=some v:=fun j v hj=>by
  rw[Addr.add_lit];exact cell_of_heap (hb w hs.ss) (by simpa using hj)
 have h2:=run_loadCells_list (P:=h.P) (w:=w) ⟨b,0,none⟩ cs hc;rw[hn]at h2;simp[results,hr,h1,h3,asAddr,loadVar,a0,a1,h2]
end Go.Sx
namespace Go.Proofs.YtojdemmgkdokmaaGreatDoor
open _root_.Go.Proofs.Tryz
open Go Go.Sx
def VOf (I:Heap) (o:Option (List UInt8)) (v:Value):Prop:=(o=none∧v= .slice none 0 0)∨∃x,o=some x∧a5z I x v
theorem VOf.mono{I A o v}(h:VOf I o v)(G:Le I A):VOf A o v:=h.imp id fun⟨x,h1,h2⟩=>⟨x,h1,h2.mono G⟩
def BSG (r:Rp.Tb) (I:Heap) (xb:Nat):Prop:=∃(V:Nat→Value) (tr:Value) (ks:List UInt8),I xb=some (yY 401 (tab V tr))∧KI 9 I (ks.map fun k=>[k]) tr∧ks.Nodup∧(∀c,c∈ks↔(r c).isSome=true)∧ks.length≤256∧Rp.Two r∧∀c:UInt8,VOf I (r c) (V c.toNat)
theorem BSG.mono{r I G O}(h:BSG r I O)(A:Le I G):BSG r G O:=let ⟨V,tr,ks,h1,h2,h3,Z,h5,h6,h7⟩:=h;⟨V,tr,ks,A _ _ h1,h2.mono A,h3,Z,h5,h6,fun c=>(h7 c).mono A⟩
theorem c3p r xb s (hs:s.length≤1000000000) I (hb:BSG r I xb):Pure aA 389 [ptr xb 0,str s] I (str (Rp.rep r s)):=by
 refine yT.toPure ?_;obtain⟨V,tr,ks,a0,⟨tb,tc,_,rfl,av⟩,aw,aa,ax,a3,hV⟩:=hb;rw[bP]at a0;have hga:=Rp.a6I a3 s;have b3:=Rp.a6J r s;refine yT.ob func389 ?_;intro w0 _;refine Cj.sr (aB yQ ?_);refine J.yV (aB yP ?_);refine aB (GK BF) ?_;refine aB yQ ?_;refine J.yV (aB yQ ?_);refine J.ns (Cj.join (ι:=Bool) (fun y=>y=false→Rp.rep r s=s) (fun y=>[(0,ptr xb 0),(1,str s),(5,i64 ((Rp.rep r s).length:Int)),(6,.bool y)]) (fun y=>I) (fun y=>[]) ?_ (fun ab=>?_))
 ·intro y hy;refine bI (Cj.sr (aB yP ?_));refine aB (ER rfl rfl) ?_;refine J.cd (fun ah=>?_) (fun ah=>?_)
  ·refine Cj.sr (aB yP ?_);refine aB yQ ?_;refine J.ns (Cj.ret (Ej.LM (Ej.bare ?_)));refine zN ?_;rw[hy (by have h:=ah;simpa using h)];exact rT
  refine bU (aN (Cj.sr (aB yP ?_)));refine J.op rfl (a4R (n:=(Rp.rep r s).length) (c:=(Rp.rep r s).length) (by1:=1) (z:=(.int .u8 0)) rfl rfl rfl rfl rfl ES kR rfl oM oM oM ?_);intro b2 _;refine aB yQ ?_;refine J.yV (aB yQ ?_);refine J.AO (aP (aB yQ ?_));refine J.ns (bJ (Cj.loop (ι:=Nat) (fun j=>j≤s.length) (fun j=>s.length-j) (fun j=>[(0,ptr xb 0),(1,str s),(12,.slice (some ⟨b2,0,none⟩) (Rp.rep r s).length (Rp.rep r s).length),(13,i64 ((Rp.rep r (s.take j)).length:Int)),(14,i64 (j:Int))]) (fun j=>I) (fun j=>[(b2,yY 5 (buf (Rp.rep r (s.take j)) (Rp.rep r s).length))]) 0 (aX _) rT rfl (by rw[List.take_zero];exact zD (fun l=>[(_,yY 5 l)]) (c5s _)) ?_));intro j hj;have ay:=Rp.b2y r s j;refine bI (Cj.sr (aB yP ?_));refine aB yP ?_;refine aB (GK BF) ?_;refine aB BM ?_;refine J.cd (fun ac=>?_) (fun ac=>?_)
  ·have aq:=BH ac;have a7:j<s.length:=oM;obtain⟨c,a2⟩:∃c,s[j]?=some c:=⟨_,DX a7⟩;have ai:=Rp.c2R r a2;have b1:=Rp.b2y r s (j+1);refine bU (aN (bI (bJ (Cj.sr (aB yP ?_)))));refine aB yP ?_;refine aB (DU rfl rfl rfl BF oM a2) ?_;refine aB yQ ?_;refine J.yV ?_;rcases hV c with⟨O,Z⟩|⟨x,O,l,cc,sp,fr,Z,hl⟩
   ·have G:Rp.one r c=[c]:=by unfold Rp.one;rw[O];rfl
    have hw:Rp.w r c=0:=by unfold Rp.w;rw[G];rfl
    have a4:Rp.rep r (s.take (j+1))=Rp.rep r (s.take j)++[c]:=ai.trans (by rw[G]);have a8:(Rp.rep r (s.take (j+1))).length=(Rp.rep r (s.take j)).length+1:=by rw[a4,aY];rfl
    refine aB yP ?_;refine aB yP ?_;refine aB zW ?_;refine aB (qq2 (off':=0) OL WR) ?_;refine aB (FD (off':=c.toNat) rfl rfl rfl XW JM oM (by have:=c.toNat_lt;omega) sI) ?_;refine aB (EN PK (aU a0) (UE _ _ c.toNat_lt)) ?_;refine J.eqv 100 rfl (show _= .slice none 0 0 from Z) ?_;refine aB (a0p _ rfl rfl rfl ES) ?_;refine J.c0 (fun _=>?_);refine Cj.sr (aB yP ?_);refine aB yP ?_;refine aB yP ?_;refine aB (BG (off':=(Rp.rep r (s.take j)).length) ES RF) ?_;refine J.op rfl (MK 0 rfl rfl rfl rfl rfl rfl RF rfl (.inl rfl) (by rw[b4F ay];omega) (by rw[c4S _ oM];exact AV.z) ?_);refine J.GL (aB yP ?_);refine aB (yZ rfl rfl rfl (AA oM)) ?_;refine aB yQ ?_;refine J.nil (aQ (aN (aP (aB yP ?_))));refine aB (yZ rfl rfl rfl (AA oM)) ?_;refine aB yQ ?_;refine J.nil (bK (j+1) oM oM ⟨rfl,rfl,rfl,by rw[a8];rfl,rfl,trivial⟩ rfl (zD (fun l=>[(_,yY _ (buf l _))]) a4))
   have aj:=a3 c x O;have G:Rp.one r c=x:=by unfold Rp.one;rw[O];rfl
   have hw:Rp.w r c=(x.length:Int)-1:=by unfold Rp.w;rw[G]
   have a4:Rp.rep r (s.take (j+1))=Rp.rep r (s.take j)++x:=ai.trans (by rw[G]);have a8:(Rp.rep r (s.take (j+1))).length=(Rp.rep r (s.take j)).length+x.length:=by rw[a4,aY]
   refine aB yP ?_;refine aB yP ?_;refine aB zW ?_;refine aB (qq2 (off':=0) OL WR) ?_;refine aB (FD (off':=c.toNat) rfl rfl rfl XW JM oM (by have:=c.toNat_lt;omega) sI) ?_;refine aB (EN PK (aU a0) (UE _ _ c.toNat_lt)) ?_;refine J.eqv 100 rfl (show _= .slice (some ⟨l,0,none⟩) x.length cc from Z) ?_;refine aB (a0p _ rfl rfl rfl ES) ?_;refine J.c1 (fun _=>?_);refine Cj.FT [] [] 13 kR ?_;refine JA.fix BQ (fun a1=>?_);refine aF 0 rfl a1 yP ?_;refine aF 1 rfl a1 yP ?_;refine aF 2 rfl a1 yP ?_;refine aF 3 rfl a1 (a7v rfl rfl rfl ES RF oM oM) ?_;refine aF 4 rfl a1 yP ?_;refine aF 5 rfl a1 yP ?_;refine aF 6 rfl a1 zW ?_;refine aF 7 rfl a1 (qq2 (off':=0) OL WR) ?_;refine aF 8 rfl a1 (FD (off':=c.toNat) rfl rfl rfl XW JM oM (by have:=c.toNat_lt;omega) sI) ?_;refine aF 9 rfl a1 (EN PK (yR.TN a0) (UE _ _ c.toNat_lt)) ?_;refine JA.eqv 111 rfl (show _= .slice (some ⟨l,0,none⟩) x.length cc from Z) ?_;refine zT 10 rfl (c4F (m:=x.length) 0 rfl rfl rfl rfl rfl ES RF (Src.slice (ys:=EP x) (aU hl) (by rw[bT];exact c2k x sp) (by rw[PG,cZ]) (c5Q x)) oM rfl (c6J (E:=Rp.rep r (s.take j)) (x:=x) (n:=(Rp.rep r s).length) oM) AV.z ?_);refine⟨EU,?_⟩;refine JA.fix BQ (fun ak=>?_);refine aF 11 rfl ak (yZ rfl rfl rfl (AA oM)) ?_;refine aF 12 rfl ak yQ ?_;refine AL ?_;refine aQ (aN (aP (aB yP ?_)));refine aB (yZ rfl rfl rfl (AA oM)) ?_;refine aB yQ ?_;refine J.nil (bK (j+1) oM oM ⟨rfl,rfl,rfl,by rw[a8];rfl,rfl,trivial⟩ rfl (zD (fun l=>[(_,yY _ (buf l _))]) a4))
  have aq:=BN ac;have a5:s.take j=s:=aJ oM;refine Cj.exit (dH (dA (dI (aN (Cj.sr (aB yP ?_))))));refine aB (ZV (Rp.rep r s) rfl rfl rfl ES BF ZJ (yR.at 0 rfl) (by rw[a5,c3A rfl,dG];exact aJ (by rw[bT,PG];exact Nat.le_refl _))) ?_;refine aB yQ ?_;refine J.ns (Cj.ret (Ej.bare ?_));refine zN ?_;exact rT
 refine Cj.sr (aB yP ?_);refine aB zW ?_;refine aB (qq2 (off':=256) OL LK) ?_;refine aB (EN RX (aU a0) (a8t _ _)) ?_;refine aB (AU AP) ?_;refine aB (a0y rfl rfl rfl (AA oM)) ?_;refine aB yP ?_;refine aB (GK BF) ?_;refine aB (WA rfl rfl rfl) ?_;refine J.cd (fun ad=>?_) (fun ad=>?_)
 ·have ar:=BH ad;refine Cj.sr (aB yP ?_);refine aB zW ?_;refine aB (qq2 (off':=256) OL LK) ?_;refine aB (EN RX (aU a0) (a8t _ _)) ?_;refine aB (AU AP) ?_;refine aB yP ?_;refine J.ns (bJ (Cj.loop (ι:=Nat) (fun i=>i≤ks.length) (fun i=>ks.length-i) (fun i=>[(0,ptr xb 0),(1,str s),(5,i64 ((s.length:Int)+Rp.cg r s (ks.take i))),(6,.bool (decide (0<Rp.cn s (ks.take i)))),(30,.slice (some ⟨tb,0,none⟩) ks.length tc),(31,i64 (ks.length:Int)),(32,i64 (i:Int))]) (fun i=>I) (fun i=>[]) 0 (aX _) ⟨rfl,rfl,(zD (fun z=>some (aH .i64 z)) (by simp[Rp.cg])),rfl,rfl,rfl,rfl,trivial⟩ rfl rfl ?_));intro i hi;have az:=Rp.b8u a3 hs (ks.take i);rw[dD,dJ hi]at az;refine Cj.sr (aB BM ?_);refine J.nss (Cj.cond rfl (fun ae=>?_) (fun ae=>?_))
  ·have au:=BH ae;have a7:i<ks.length:=oM;obtain⟨k,hk⟩:∃k,ks[i]?=some k:=⟨_,DX a7⟩;have al:=Rp.c4E r s hk;have am:=Rp.c4y s hk;have hm:=Rp.mul_two a3 hs k;have ax:=k.toNat_lt;have b4:s.count k≤s.length:=aV;obtain⟨x,an,l,cc,sp,fr,Z,hl⟩:=(hV k).resolve_left fun g=>by have:=(aa k).1 (FB hk);rw[g.1]at this;cases this
   have aj:=a3 k x an;have hw:Rp.w r k=(x.length:Int)-1:=by unfold Rp.w Rp.one;rw[an];rfl
   refine bU (aN (bI (bJ (Cj.sr (aB (BG (off':=i) AP zL) ?_)))));refine aB (FY rfl rfl BX (aU av) (JO (x:=[k]) (by rw[List.getElem?_map,hk];rfl))) ?_;refine aB yQ ?_;refine J.yV (aB yP ?_);refine aB yP ?_;refine J.op rfl (yU rfl rfl rfl rfl rfl (c2I s k _) ?_);refine aB yQ ?_;refine J.yV (aB yP ?_);refine aB EY ?_;refine J.cd (fun a6=>?_) (fun a6=>?_)
   ·have af:=bne_iff_ne.1 a6;have h0:s.count k≠0:=by have h:=a6;simpa using h
    refine bI (Cj.FT [] [] 14 kR ?_);refine JA.fix BQ (fun A=>?_);refine aF 0 rfl A yP ?_;refine aF 1 rfl A yP ?_;refine aF 2 rfl A yP ?_;refine aF 3 rfl A yP ?_;refine aF 4 rfl A (DU rfl rfl rfl BF dE rfl) ?_;refine aF 5 rfl A zW ?_;refine aF 6 rfl A (qq2 (off':=0) OL WR) ?_;refine aF 7 rfl A (FD (off':=k.toNat) rfl rfl rfl XW JM oM (by have:=k.toNat_lt;omega) sI) ?_;refine aF 8 rfl A (EN PK (yR.TN a0) (UE _ _ k.toNat_lt)) ?_;refine JA.eqv 49 rfl (show _= .slice (some ⟨l,0,none⟩) x.length cc from Z) ?_;refine aF 9 rfl A (AU ES) ?_;refine aF 10 rfl A (IC rfl rfl rfl (AA oM)) ?_;refine JA.eqv 51 rfl (show _=i64 (Rp.w r k) from(zD i64 hw.symm)) ?_;refine aF 11 rfl A (a0y rfl rfl rfl (AA oM)) ?_;refine aF 12 rfl A (yZ rfl rfl rfl (AA oM)) ?_;refine aF 13 rfl A yQ ?_;refine AL ?_;refine aN (aP (aB yQ ?_));refine J.nil (aQ (aN (aP (aB (yZ rfl rfl rfl (AA oM)) ?_))));refine aB yP ?_;refine J.nil (bK (i+1) oM oM ⟨rfl,rfl,(zD (fun z=>some (aH .i64 z)) (by rw[al];omega)),(zD (fun z=>some (aW z)) (by rw[am];exact(zI oM).symm)),rfl,rfl,rfl,trivial⟩ rfl rfl)
   have af:=EC a6;have h0:s.count k=0:=by have h:=a6;simpa using h
   refine bU (aQ (aN (aP (aB (yZ rfl rfl rfl (AA oM)) ?_))));refine aB yP ?_;refine J.nil (bK (i+1) oM oM ⟨rfl,rfl,(zD (fun z=>some (aH .i64 z)) (by rw[al,h0];omega)),(zD (fun z=>some (aW z)) (by rw[am,h0];rfl)),rfl,rfl,rfl,trivial⟩ rfl rfl)
  have au:=BN ae;have a5:ks.take i=ks:=aJ oM;refine Cj.exit (dH (dA (dI ?_)));exact ab (decide (0<Rp.cn s ks)) _ _ _ (fun h=>Rp.b2r (Rp.c5r aa (by have:=BN h;omega))) ⟨rfl,rfl,(zD (fun z=>some (aH .i64 z)) (by rw[a5,Rp.a6J,Rp.b8S aw aa])),(zD (fun l=>some (aW (decide (0<Rp.cn s l)))) a5),trivial⟩ rfl rfl
 have ar:=BN ad;refine Cj.sr (aB yQ ?_);refine J.ns (bJ (Cj.loop (ι:=Nat) (fun j=>j≤s.length) (fun j=>s.length-j) (fun j=>[(0,ptr xb 0),(1,str s),(5,i64 ((s.length:Int)+Rp.gain r (s.take j))),(6,.bool (decide (0<Rp.hits r (s.take j)))),(10,i64 (j:Int))]) (fun j=>I) (fun j=>[]) 0 (aX _) ⟨rfl,rfl,(zD (fun z=>some (aH .i64 z)) (by simp[Rp.gain])),rfl,rfl,trivial⟩ rfl rfl ?_));intro j hj;have b0:=Rp.a6I a3 (s.take j);rw[dD,dJ hj]at b0;refine bI (Cj.sr (aB yP ?_));refine aB yP ?_;refine aB (GK BF) ?_;refine aB BM ?_;refine J.cd (fun a9=>?_) (fun a9=>?_)
 ·have ag:=BH a9;have a7:j<s.length:=oM;obtain⟨c,a2⟩:∃c,s[j]?=some c:=⟨_,DX a7⟩;have ao:=Rp.b9F r a2;have ap:=Rp.c0F r a2;refine bU (aN (bI (bJ (Cj.sr (aB yP ?_)))));refine aB yP ?_;refine aB (DU rfl rfl rfl BF oM a2) ?_;refine aB yQ ?_;refine J.yV ?_;rcases hV c with⟨O,Z⟩|⟨x,O,l,cc,sp,fr,Z,hl⟩
  ·have G:Rp.one r c=[c]:=by unfold Rp.one;rw[O];rfl
   have hw:Rp.w r c=0:=by unfold Rp.w;rw[G];rfl
   refine aB yP ?_;refine aB yP ?_;refine aB zW ?_;refine aB (qq2 (off':=0) OL WR) ?_;refine aB (FD (off':=c.toNat) rfl rfl rfl XW JM oM (by have:=c.toNat_lt;omega) sI) ?_;refine aB (EN PK (aU a0) (UE _ _ c.toNat_lt)) ?_;refine J.eqv 69 rfl (show _= .slice none 0 0 from Z) ?_;refine aB (a0p _ rfl rfl rfl ES) ?_;refine J.c0 (fun _=>?_);refine bU (aQ (aN (aP (aB yP ?_))));refine aB (yZ rfl rfl rfl (AA oM)) ?_;refine aB yQ ?_;refine J.nil (bK (j+1) oM oM ⟨rfl,rfl,(zD (fun z=>some (aH .i64 z)) (by rw[ao,hw];omega)),(zD (fun z=>some (aW z)) (by rw[ap,O];rfl)),rfl,trivial⟩ rfl rfl)
  have aj:=a3 c x O;have G:Rp.one r c=x:=by unfold Rp.one;rw[O];rfl
  have hw:Rp.w r c=(x.length:Int)-1:=by unfold Rp.w;rw[G]
  refine aB yP ?_;refine aB yP ?_;refine aB zW ?_;refine aB (qq2 (off':=0) OL WR) ?_;refine aB (FD (off':=c.toNat) rfl rfl rfl XW JM oM (by have:=c.toNat_lt;omega) sI) ?_;refine aB (EN PK (aU a0) (UE _ _ c.toNat_lt)) ?_;refine J.eqv 69 rfl (show _= .slice (some ⟨l,0,none⟩) x.length cc from Z) ?_;refine aB (a0p _ rfl rfl rfl ES) ?_;refine J.c1 (fun _=>?_);refine Cj.sr (aB yP ?_);refine aB yP ?_;refine aB yP ?_;refine aB zW ?_;refine aB (qq2 (off':=0) OL WR) ?_;refine aB (FD (off':=c.toNat) rfl rfl rfl XW JM oM (by have:=c.toNat_lt;omega) sI) ?_;refine aB (EN PK (aU a0) (UE _ _ c.toNat_lt)) ?_;refine J.eqv 77 rfl (show _= .slice (some ⟨l,0,none⟩) x.length cc from Z) ?_;refine aB (AU ES) ?_;refine aB (IC rfl rfl rfl (AA oM)) ?_;refine aB (yZ rfl rfl rfl (AA oM)) ?_;refine aB yQ ?_;refine J.GL (aB yQ ?_);refine J.nil (aQ (aN (aP (aB yP ?_))));refine aB (yZ rfl rfl rfl (AA oM)) ?_;refine aB yQ ?_;refine J.nil (bK (j+1) oM oM ⟨rfl,rfl,(zD (fun z=>some (aH .i64 z)) (by rw[ao,hw];omega)),(zD (fun z=>some (aW z)) (by rw[ap,O];exact(zI (Nat.succ_pos _)).symm)),rfl,trivial⟩ rfl rfl)
 have ag:=BN a9;have a5:s.take j=s:=aJ oM;refine Cj.exit (dH (dA (dI ?_)));exact ab (decide (0<Rp.hits r s)) _ _ _ (fun h=>Rp.b2r (by have:=BN h;omega)) ⟨rfl,rfl,(zD (fun z=>some (aH .i64 z)) (by rw[a5,Rp.a6J])),(zD (fun l=>some (aW (decide (0<Rp.hits r l)))) a5),trivial⟩ rfl rfl
