/-
  Own texts on the laws of the seat, joined: the logic, and contracts of functions. Conditions: none.
-/
import Derived.Test.YtekmeaoblpfnpaaGreatDoorNmC
import Derived.Test.YtekmeaoblpfnpaaGreatDoorPC3
import Derived.Shelf.Strings.Builder1
import Derived.Shelf.Strings.Builder2
import Derived.Shelf.Strings.OnBuilder
import Derived.Shelf.Strings.Trim
import Derived.Shelf.Small.Utf8
import Derived.Shelf.Small.Bits
import Derived.Shelf.Small.Strs
import Derived.Shelf.Small.Wraps
import Derived.Shelf.Strings.BuilderF
import Derived.Shelf.Strings.BuilderK
import Derived.Shelf.Strings.BuilderRune
import Derived.Shelf.Utf8.AppendRune
import Derived.Shelf.Utf8.AppendRunePlain
import Derived.Shelf.Utf8.RuneCount
import Derived.Shelf.Strings.Builder2Cap
import Derived.Shelf.Strconv.Itoa0
import Derived.Shelf.Strings.Search1
import Derived.Shelf.Strings.Search2
import Derived.Shelf.Strings.Search3
import Derived.Shelf.Strings.Cut
import Derived.Shelf.Strings.Count
import Derived.Shelf.LaysM
import Derived.Shelf.Strings.Shaped
import Derived.Shelf.GgClosure.StringsIndexFunc
import Derived.Ground.GgwProg
import Derived.Shelf.GgClosure.StringsIndexFuncTop
import Derived.Shelf.Strings.Prefix
import Derived.Shelf.Strings.Split
import Derived.Shelf.Strings.Fields
import Derived.Shelf.Strings.SplitShaped
import Derived.Shelf.Unicode.Latin
import Derived.Shelf.Unicode.Decode
import Derived.Shelf.Strings.Runes
import Derived.Shelf.Strings.RuneCount
import Derived.Shelf.Strings.AsciiSet
import Derived.Shelf.Unicode.DecodeSlow
import Derived.Shelf.Unicode.DecodeAny
import Derived.Shelf.Unicode.Is16White
import Derived.Shelf.Unicode.IsSpaceAny
import Derived.Shelf.Unicode.DecodeLast
import Derived.Shelf.Unicode.Is16WhiteD
import Derived.Shelf.Unicode.IsSpaceAnyD
import Derived.Shelf.Strings.FieldsAny
import Derived.Shelf.Strings.FieldsFuncAny
import Derived.Shelf.Unicode.CaseLookup
import Derived.Shelf.Unicode.CaseConvert
import Derived.Shelf.Unicode.CaseTo
import Derived.Shelf.Unicode.CaseLaid
import Derived.Shelf.Strings.MapAny
import Derived.Shelf.Strings.CaseAny
import Derived.Shelf.Unicode.Is16Any
import Derived.Shelf.Unicode.Is32Any
import Derived.Shelf.Unicode.ExclAny
import Derived.Shelf.Strings.FuncGrows
import Derived.Shelf.Strings.FieldsFuncGrows
import Derived.Shelf.Strings.BuilderCap
import Derived.Shelf.Strings.MapGrows
import Derived.Shelf.Slices.Turned
import Derived.Shelf.Slices.Equal
import Derived.Ground.Names2Prog
import Derived.Shelf.Slices.SearchI
import Derived.Shelf.Slices.Empties2
import Derived.Lib.Bytealg
set_option linter.all false
set_option maxRecDepth 100000
set_option maxHeartbeats 40000000
open Go.Proofs.Tryz renaming prog -> aA,zeroCells364 -> dN
open Go.Ending renaming returned -> aB
open Go.Shelf renaming Ren -> aC
open Bool renaming noConfusion -> aF,false_eq_true -> dL
open Go.Value renaming int -> aG,bool -> bI,oneCell' -> eF,string -> eX
open Ke renaming char -> aH,b1E -> aN,tab -> bQ,rows -> bW,WG -> bZ,IL -> dB
open List renaming take_of_length_le -> aI,map_cons -> aK,length_cons -> aU,count_le_length -> bH,length_append -> bK,sum_cons -> bT,mem_cons -> bU,getElem?_eq_some_iff -> bV,cons_append -> bY,append_nil -> cO,map_append -> dA,take_append_drop -> dF,drop_zero -> dG,append_assoc -> dP,countP_cons -> dR,length_take -> dU,lookup_cons -> dV
open Go.Sx.J renaming z -> aJ,op -> aT,pull -> bP,ev -> dS,persist -> eH
open Go.Sx.yX renaming s -> aO,z -> bM
open Go.Utf8 renaming decode -> aP,encode -> dD
open Go.Lib renaming indexByte -> aQ,goFieldsP -> aW,fieldsD -> bD
open Go.Sx.Pull renaming s -> aS,z -> aY
open Eq renaming trans -> aV,symm -> bC
open Go.Sx.yZ renaming BR -> aX
open Go.Sx.Cj renaming cond -> aZ,loop -> dM,AU -> dW
open Nat renaming zero_le -> bF,mul_one -> dQ,min_eq_left -> dX
open Go.Sx.Ej renaming round -> bG,rounds -> dJ,persist -> dZ
open Go.Sx.Enters renaming of -> bJ
open Go.Sx.JA renaming zt -> cZ,ev -> eU
open Go.Sx.Keeps renaming d -> dH,k -> fA,n -> fB
open Go.Sx.Rj renaming succ -> dI
open Go.Sx renaming str -> dK
open UInt8 renaming toNat_inj -> dY
open Go.Sx.Src renaming slice -> eG
open Go.Proofs.Builder renaming Extra -> eP
open Go.Sx.Pure renaming of_same -> eY
open Go.Proofs.Lays renaming n158 -> fC,n156 -> fD,n161 -> fE,n160 -> fF,n119 -> fG,n106 -> fH,n137 -> fJ,n122 -> fK,n219 -> fM,n138 -> fO,n157 -> fP,n151 -> fQ,n229 -> fU,n110 -> fV
namespace Go.Proofs
open _root_.Go.Proofs.Tryz
open Go.Shelf
def Tryz.a2H:aC:=⟨fun|158=>196|165=>240|166=>130|167=>241|169=>132|230=>242|203=>243|240=>184|241=>271|197=>272|118=>273|168=>274|270=>275|262=>276|276=>234|277=>299|260=>300|242=>301|313=>302|278=>316|274=>317|275=>318|n=>n,fun|9=>9|4=>4|3=>3|5=>5|72=>204|0=>0|76=>208|75=>207|107=>293|70=>202|20=>20|37=>192|127=>246|21=>21|105=>328|164=>284|162=>351|203=>349|119=>341|46=>188|139=>372|138=>371|51=>238|160=>373|208=>407|206=>405|80=>211|n=>n,fun|13=>2|3=>4|4=>5|n=>n⟩
theorem Tryz.b8t:fC aA Tryz.a2H:={
 mixed:=kR
 f118:=func273.trans (zC some kR)
 f158:=func196.trans (zC some kR)
 f165:=func240.trans (zC some kR)
 f166:=func130.trans (zC some kR)
 f167:=func241.trans (zC some kR)
 f168:=func274.trans (zC some kR)
 f169:=func132.trans (zC some kR)
 f197:=func272.trans (zC some kR)
 f203:=func243.trans (zC some kR)
 f230:=func242.trans (zC some kR)
 f240:=func184.trans (zC some kR)
 f241:=func271.trans (zC some kR)
 f242:=func301.trans (zC some kR)
 f260:=func300.trans (zC some kR)
 f262:=func276.trans (zC some kR)
 f270:=func275.trans (zC some kR)
 f274:=func317.trans (zC some kR)
 f275:=func318.trans (zC some kR)
 f276:=func234.trans (zC some kR)
 f277:=func299.trans (zC some kR)
 f278:=func316.trans (zC some kR)
 f313:=func302.trans (zC some kR)
 t0:=underlying0
 a0:=isAgg0
 z0:=sizeOf0
 v0:=zeroValue0
 t3:=underlying3
 a3:=isAgg3
 z3:=sizeOf3
 v3:=zeroValue3
 t4:=underlying4
 a4:=isAgg4
 z4:=sizeOf4
 v4:=zeroValue4
 t5:=underlying5
 a5:=isAgg5
 z5:=sizeOf5
 v5:=zeroValue5
 t9:=underlying9
 a9:=isAgg9
 z9:=sizeOf9
 v9:=zeroValue9
 t20:=underlying20
 a20:=isAgg20
 z20:=sizeOf20
 v20:=zeroValue20
 t21:=underlying21
 a21:=isAgg21
 z21:=sizeOf21
 v21:=zeroValue21
 t37:=underlying192
 a37:=isAgg192
 z37:=sizeOf192
 v37:=zeroValue192
 t46:=underlying188
 a46:=isAgg188
 z46:=sizeOf188
 v46:=zeroValue188
 t51:=underlying238
 a51:=isAgg238
 z51:=sizeOf238
 v51:=zeroValue238
 t70:=underlying202
 a70:=isAgg202
 z70:=sizeOf202
 v70:=zeroValue202
 t72:=underlying204
 a72:=isAgg204
 z72:=sizeOf204
 v72:=zeroValue204
 t75:=underlying207
 a75:=isAgg207
 z75:=sizeOf207
 v75:=zeroValue207
 t76:=underlying208
 a76:=isAgg208
 z76:=sizeOf208
 v76:=zeroValue208
 t105:=underlying328
 a105:=isAgg328
 z105:=sizeOf328
 v105:=zeroValue328
 t107:=underlying293
 a107:=isAgg293
 z107:=sizeOf293
 v107:=zeroValue293
 t119:=underlying341
 a119:=isAgg341
 z119:=sizeOf341
 t127:=underlying246
 a127:=isAgg246
 z127:=sizeOf246
 v127:=zeroValue246
 t138:=underlying371
 a138:=isAgg371
 z138:=sizeOf371
 v138:=zeroValue371
 t139:=underlying372
 a139:=isAgg372
 z139:=sizeOf372
 v139:=zeroValue372
 t160:=underlying373
 a160:=isAgg373
 z160:=sizeOf373
 v160:=zeroValue373
 t162:=underlying351
 a162:=isAgg351
 z162:=sizeOf351
 v162:=zeroValue351
 t164:=underlying284
 a164:=isAgg284
 z164:=sizeOf284
 v164:=zeroValue284
 t203:=underlying349
 a203:=isAgg349
 z203:=sizeOf349
 v203:=zeroValue349
 t206:=underlying405
 a206:=isAgg405
 z206:=sizeOf405
 v206:=zeroValue405
 t208:=underlying407
 a208:=isAgg407
 z208:=sizeOf407
 v208:=zeroValue407
 g3:=kR
 g4:=kR
 g13:=by kernel_rfl }
theorem Tryz.a2D:eP aA Tryz.a2H:={
 sizeBuilder:=kR
 liesBuilder:=kR
 t5:=underlying5
 a5:=isAgg5
 z5:=sizeOf5
 v5:=zeroValue5
 infoByte:=kR
 cellsByte:=kR
 sizeByte:=kR
 neB5:=by decide }
open Go.RowKit in
theorem Tryz.strings_ToUpper_ascii s w (O:s.size≤140737488355328)(N:∀(j:Nat) (b:UInt8),s.data.toList[j]?=some b→b.toNat<128):
 Calls aA 196 #[.string s] w fun e w'=>e= .returned (.string ⟨(Lib.toUpperA s.data.toList).toArray⟩)∧Below w.heap.size w w':=Any.strings_ToUpper_ascii Tryz.b8t Tryz.a2D s w O N
def Tryz.lays156_ren:aC:=⟨fun|156=>203|165=>240|166=>130|169=>132|240=>184|241=>271|276=>234|277=>299|n=>n,fun|31=>69|9=>9|3=>3|4=>4|0=>0|20=>20|72=>204|76=>208|70=>202|37=>192|75=>207|127=>246|164=>284|5=>5|80=>211|n=>n,fun|n=>n⟩
theorem Tryz.lays156:fD aA Tryz.lays156_ren:={
 mixed:=kR
 f156:=func203.trans (zC some kR)
 f165:=func240.trans (zC some kR)
 f166:=func130.trans (zC some kR)
 f169:=func132.trans (zC some kR)
 f240:=func184.trans (zC some kR)
 f241:=func271.trans (zC some kR)
 f276:=func234.trans (zC some kR)
 f277:=func299.trans (zC some kR)
 t0:=underlying0
 a0:=isAgg0
 z0:=sizeOf0
 v0:=zeroValue0
 t3:=underlying3
 a3:=isAgg3
 z3:=sizeOf3
 v3:=zeroValue3
 t4:=underlying4
 a4:=isAgg4
 z4:=sizeOf4
 v4:=zeroValue4
 t9:=underlying9
 a9:=isAgg9
 z9:=sizeOf9
 v9:=zeroValue9
 t20:=underlying20
 a20:=isAgg20
 z20:=sizeOf20
 v20:=zeroValue20
 t31:=underlying69
 a31:=isAgg69
 z31:=sizeOf69
 v31:=zeroValue69
 t37:=underlying192
 a37:=isAgg192
 z37:=sizeOf192
 v37:=zeroValue192
 t70:=underlying202
 a70:=isAgg202
 z70:=sizeOf202
 v70:=zeroValue202
 t72:=underlying204
 a72:=isAgg204
 z72:=sizeOf204
 v72:=zeroValue204
 t75:=underlying207
 a75:=isAgg207
 z75:=sizeOf207
 v75:=zeroValue207
 t76:=underlying208
 a76:=isAgg208
 z76:=sizeOf208
 v76:=zeroValue208
 t127:=underlying246
 a127:=isAgg246
 z127:=sizeOf246
 v127:=zeroValue246
 t164:=underlying284
 a164:=isAgg284
 z164:=sizeOf284
 v164:=zeroValue284 }
theorem Tryz.Builder_Extra_156:eP aA Tryz.lays156_ren:={
 sizeBuilder:=kR
 liesBuilder:=kR
 t5:=underlying5
 a5:=isAgg5
 z5:=sizeOf5
 v5:=zeroValue5
 infoByte:=kR
 cellsByte:=kR
 sizeByte:=kR
 neB5:=by decide }
open Go.RowKit in
theorem Tryz.strings_Join_none a c N w:
 Calls aA 203 #[.slice a 0 c,.string N] w fun e w'=>e= .returned (.string ⟨#[]⟩)∧w'=w:=Any.strings_Join_none Tryz.lays156 Tryz.Builder_Extra_156 a c N w
open Go.RowKit in
theorem Tryz.strings_Join W o c (xs:List ByteArray) N w (O:∀(j:Nat) x,xs[j]?=some x→w.cell? ⟨W,o+j,none⟩=some (.string x))(a1:W<w.heap.size)(hN:xs.length≤140737488355328)(Z:xs.length≤c)(a0:(Lib.join (xs.map (·.data.toList)) N.data.toList).length≤140737488355328):
 Calls aA 203 #[.slice (some ⟨W,o,none⟩) xs.length c,.string N] w fun e w'=>e= .returned (.string ⟨(Lib.join (xs.map (·.data.toList)) N.data.toList).toArray⟩)∧Below w.heap.size w w':=Any.strings_Join Tryz.lays156 Tryz.Builder_Extra_156 W o c xs N w O a1 hN Z a0
def Tryz.a9G:aC:=⟨fun|161=>202|231=>247|227=>248|233=>249|235=>250|228=>283|197=>272|151=>195|260=>300|152=>239|137=>217|119=>268|224=>269|225=>270|217=>260|266=>288|n=>n,fun|9=>9|4=>4|3=>3|5=>5|117=>313|116=>312|0=>0|124=>316|105=>328|21=>21|119=>341|46=>188|139=>372|138=>371|n=>n,fun|3=>4|4=>5|n=>n⟩
theorem Tryz.lays161:fE aA Tryz.a9G:={
 mixed:=kR
 f119:=func268.trans (zC some kR)
 f137:=func217.trans (zC some kR)
 f151:=func195.trans (zC some kR)
 f152:=func239.trans (zC some kR)
 f161:=func202.trans (zC some kR)
 f197:=func272.trans (zC some kR)
 f217:=func260.trans (zC some kR)
 f224:=func269.trans (zC some kR)
 f225:=func270.trans (zC some kR)
 f227:=func248.trans (zC some kR)
 f228:=func283.trans (zC some kR)
 f231:=func247.trans (zC some kR)
 f233:=func249.trans (zC some kR)
 f235:=func250.trans (zC some kR)
 f260:=func300.trans (zC some kR)
 f266:=func288.trans (zC some kR)
 t0:=underlying0
 a0:=isAgg0
 z0:=sizeOf0
 v0:=zeroValue0
 t3:=underlying3
 a3:=isAgg3
 z3:=sizeOf3
 v3:=zeroValue3
 t4:=underlying4
 a4:=isAgg4
 z4:=sizeOf4
 v4:=zeroValue4
 t5:=underlying5
 a5:=isAgg5
 z5:=sizeOf5
 v5:=zeroValue5
 t9:=underlying9
 a9:=isAgg9
 z9:=sizeOf9
 v9:=zeroValue9
 t21:=underlying21
 a21:=isAgg21
 z21:=sizeOf21
 v21:=zeroValue21
 t46:=underlying188
 a46:=isAgg188
 z46:=sizeOf188
 v46:=zeroValue188
 t105:=underlying328
 a105:=isAgg328
 z105:=sizeOf328
 v105:=zeroValue328
 t116:=underlying312
 a116:=isAgg312
 z116:=sizeOf312
 t117:=underlying313
 a117:=isAgg313
 z117:=sizeOf313
 v117:=zeroValue313
 t119:=underlying341
 a119:=isAgg341
 z119:=sizeOf341
 t124:=underlying316
 a124:=isAgg316
 z124:=sizeOf316
 v124:=zeroValue316
 t138:=underlying371
 a138:=isAgg371
 z138:=sizeOf371
 v138:=zeroValue371
 t139:=underlying372
 a139:=isAgg372
 z139:=sizeOf372
 v139:=zeroValue372
 g3:=kR
 g4:=by kernel_rfl }
open Go.RowKit in
theorem Tryz.strings_TrimLeft_one s c (N:c.toNat<128) w:
 Calls aA 202 #[.string s,.string ⟨#[c]⟩] w fun e w'=>e= .returned (.string ⟨(Lib.trimLeftB s.data.toList c).toArray⟩)∧w'=w:=Any.strings_TrimLeft_one Tryz.lays161 s c N w
def Tryz.a9x:aC:=⟨fun|160=>246|232=>280|231=>247|227=>248|234=>281|233=>249|236=>282|235=>250|228=>283|271=>309|151=>195|197=>272|120=>325|152=>239|260=>300|137=>217|119=>268|224=>269|225=>270|217=>260|266=>288|n=>n,fun|9=>9|4=>4|3=>3|5=>5|117=>313|116=>312|0=>0|124=>316|21=>21|105=>328|46=>188|119=>341|139=>372|138=>371|n=>n,fun|3=>4|4=>5|n=>n⟩
theorem Tryz.lays160:fF aA Tryz.a9x:={
 mixed:=kR
 f119:=func268.trans (zC some kR)
 f120:=func325.trans (zC some kR)
 f137:=func217.trans (zC some kR)
 f151:=func195.trans (zC some kR)
 f152:=func239.trans (zC some kR)
 f160:=func246.trans (zC some kR)
 f197:=func272.trans (zC some kR)
 f217:=func260.trans (zC some kR)
 f224:=func269.trans (zC some kR)
 f225:=func270.trans (zC some kR)
 f227:=func248.trans (zC some kR)
 f228:=func283.trans (zC some kR)
 f231:=func247.trans (zC some kR)
 f232:=func280.trans (zC some kR)
 f233:=func249.trans (zC some kR)
 f234:=func281.trans (zC some kR)
 f235:=func250.trans (zC some kR)
 f236:=func282.trans (zC some kR)
 f260:=func300.trans (zC some kR)
 f266:=func288.trans (zC some kR)
 f271:=func309.trans (zC some kR)
 t0:=underlying0
 a0:=isAgg0
 z0:=sizeOf0
 v0:=zeroValue0
 t3:=underlying3
 a3:=isAgg3
 z3:=sizeOf3
 v3:=zeroValue3
 t4:=underlying4
 a4:=isAgg4
 z4:=sizeOf4
 v4:=zeroValue4
 t5:=underlying5
 a5:=isAgg5
 z5:=sizeOf5
 v5:=zeroValue5
 t9:=underlying9
 a9:=isAgg9
 z9:=sizeOf9
 v9:=zeroValue9
 t21:=underlying21
 a21:=isAgg21
 z21:=sizeOf21
 v21:=zeroValue21
 t46:=underlying188
 a46:=isAgg188
 z46:=sizeOf188
 v46:=zeroValue188
 t105:=underlying328
 a105:=isAgg328
 z105:=sizeOf328
 v105:=zeroValue328
 t116:=underlying312
 a116:=isAgg312
 z116:=sizeOf312
 t117:=underlying313
 a117:=isAgg313
 z117:=sizeOf313
 v117:=zeroValue313
 t119:=underlying341
 a119:=isAgg341
 z119:=sizeOf341
 t124:=underlying316
 a124:=isAgg316
 z124:=sizeOf316
 v124:=zeroValue316
 t138:=underlying371
 a138:=isAgg371
 z138:=sizeOf371
 v138:=zeroValue371
 t139:=underlying372
 a139:=isAgg372
 z139:=sizeOf372
 v139:=zeroValue372
 g3:=kR
 g4:=by kernel_rfl }
def Tryz.a9z:aC:=⟨fun|119=>268|n=>n,fun|21=>21|4=>4|n=>n,fun|n=>n⟩
theorem Tryz.lays119:fG aA Tryz.a9z:={
 mixed:=kR
 f119:=func268.trans (zC some kR)
 t4:=underlying4
 a4:=isAgg4
 z4:=sizeOf4
 v4:=zeroValue4
 t21:=underlying21
 a21:=isAgg21
 z21:=sizeOf21
 v21:=zeroValue21 }
theorem Tryz.utf8_ValidRune r w:
 Calls aA 268 #[.int .i32 r] w fun e w'=>e= .returned (.bool (Lib.validRune r))∧w'=w:=Any.utf8_ValidRune Tryz.lays119 r w
def Tryz.a9n:aC:=⟨fun|106=>58|213=>109|265=>172|n=>n,fun|9=>9|3=>3|n=>n,fun|n=>n⟩
theorem Tryz.b7J:fH aA Tryz.a9n:={
 mixed:=kR
 f106:=func58.trans (zC some kR)
 f213:=func109.trans (zC some kR)
 f265:=func172.trans (zC some kR)
 t3:=underlying3
 a3:=isAgg3
 z3:=sizeOf3
 v3:=zeroValue3
 t9:=underlying9
 a9:=isAgg9
 z9:=sizeOf9
 v9:=zeroValue9 }
open Go.RowKit in
theorem Tryz.strings_Compare a b w:
 Calls aA 58 #[.string a,.string b] w fun e w'=>e= .returned (.int .i64 (Lib.compareBytes a.data.toList b.data.toList))∧w'=w:=Any.strings_Compare Tryz.b7J a b w
def Tryz.a9u:aC:=⟨fun|137=>217|217=>260|266=>288|n=>n,fun|9=>9|5=>5|3=>3|n=>n,fun|n=>n⟩
theorem Tryz.lays137:fJ aA Tryz.a9u:={
 mixed:=kR
 f137:=func217.trans (zC some kR)
 f217:=func260.trans (zC some kR)
 f266:=func288.trans (zC some kR)
 t3:=underlying3
 a3:=isAgg3
 z3:=sizeOf3
 v3:=zeroValue3
 t5:=underlying5
 a5:=isAgg5
 z5:=sizeOf5
 v5:=zeroValue5
 t9:=underlying9
 a9:=isAgg9
 z9:=sizeOf9
 v9:=zeroValue9 }
open Go.RowKit in
theorem Tryz.strings_IndexByte s c w:
 Calls aA 217 #[.string s,.int .u8 c] w fun e w'=>e= .returned (.int .i64 (aQ s.data.toList c.toNat.toUInt8))∧w'=w:=Any.strings_IndexByte Tryz.lays137 s c w
def Tryz.a9B:aC:=⟨fun|122=>59|215=>110|n=>n,fun|3=>3|4=>4|n=>n,fun|n=>n⟩
theorem Tryz.b8n:fK aA Tryz.a9B:={
 mixed:=kR
 f122:=func59.trans (zC some kR)
 f215:=func110.trans (zC some kR)
 t3:=underlying3
 a3:=isAgg3
 z3:=sizeOf3
 v3:=zeroValue3
 t4:=underlying4
 a4:=isAgg4
 z4:=sizeOf4
 v4:=zeroValue4 }
open Go.RowKit in
theorem Tryz.cmp_Compare_int x y w:
 Calls aA 59 #[.int .i64 x,.int .i64 y] w fun e w'=>e= .returned (.int .i64 (Lib.compareInt x y))∧w'=w:=Any.cmp_Compare_int Tryz.b8n x y w
def Tryz.a9V:aC:=⟨fun|219=>298|217=>260|225=>270|224=>269|267=>315|266=>288|314=>330|n=>n,fun|9=>9|3=>3|4=>4|5=>5|46=>188|146=>402|51=>238|n=>n,fun|1=>0|n=>n⟩
theorem Tryz.lays219:fM aA Tryz.a9V:={
 mixed:=kR
 f217:=func260.trans (zC some kR)
 f219:=func298.trans (zC some kR)
 f224:=func269.trans (zC some kR)
 f225:=func270.trans (zC some kR)
 f266:=func288.trans (zC some kR)
 f267:=func315.trans (zC some kR)
 f314:=func330.trans (zC some kR)
 t3:=underlying3
 a3:=isAgg3
 z3:=sizeOf3
 v3:=zeroValue3
 t4:=underlying4
 a4:=isAgg4
 z4:=sizeOf4
 v4:=zeroValue4
 t5:=underlying5
 a5:=isAgg5
 z5:=sizeOf5
 v5:=zeroValue5
 t9:=underlying9
 a9:=isAgg9
 z9:=sizeOf9
 v9:=zeroValue9
 t46:=underlying188
 a46:=isAgg188
 z46:=sizeOf188
 v46:=zeroValue188
 t51:=underlying238
 a51:=isAgg238
 z51:=sizeOf238
 v51:=zeroValue238
 t146:=underlying402
 a146:=isAgg402
 z146:=sizeOf402
 v146:=zeroValue402
 g1:=by kernel_rfl }
open Go.RowKit Go.Lib in
theorem Tryz.stringslite_Index_one s c w:
 Calls aA 298 #[.string s,.string ⟨#[c]⟩] w fun e w'=>e= .returned (.int .i64 (aQ s.data.toList c))∧w'=w:=Any.stringslite_Index_one Tryz.lays219 s c w
def Tryz.a9P:aC:=⟨fun|138=>373|195=>374|218=>375|143=>376|219=>298|217=>260|225=>270|224=>269|267=>315|266=>288|314=>330|n=>n,fun|9=>9|3=>3|4=>4|5=>5|0=>0|46=>188|146=>402|51=>238|n=>n,fun|1=>0|n=>n⟩
theorem Tryz.lays138:fO aA Tryz.a9P:={
 mixed:=kR
 f138:=func373.trans (zC some kR)
 f143:=func376.trans (zC some kR)
 f195:=func374.trans (zC some kR)
 f217:=func260.trans (zC some kR)
 f218:=func375.trans (zC some kR)
 f219:=func298.trans (zC some kR)
 f224:=func269.trans (zC some kR)
 f225:=func270.trans (zC some kR)
 f266:=func288.trans (zC some kR)
 f267:=func315.trans (zC some kR)
 f314:=func330.trans (zC some kR)
 t0:=underlying0
 a0:=isAgg0
 z0:=sizeOf0
 v0:=zeroValue0
 t3:=underlying3
 a3:=isAgg3
 z3:=sizeOf3
 v3:=zeroValue3
 t4:=underlying4
 a4:=isAgg4
 z4:=sizeOf4
 v4:=zeroValue4
 t5:=underlying5
 a5:=isAgg5
 z5:=sizeOf5
 v5:=zeroValue5
 t9:=underlying9
 a9:=isAgg9
 z9:=sizeOf9
 v9:=zeroValue9
 t46:=underlying188
 a46:=isAgg188
 z46:=sizeOf188
 v46:=zeroValue188
 t51:=underlying238
 a51:=isAgg238
 z51:=sizeOf238
 v51:=zeroValue238
 t146:=underlying402
 a146:=isAgg402
 z146:=sizeOf402
 v146:=zeroValue402
 g1:=by kernel_rfl }
open Go.RowKit Go.Lib in
theorem Tryz.strings_Count_one s c w:
 Calls aA 373 #[.string s,.string ⟨#[c]⟩] w fun e w'=>e= .returned (.int .i64 (Lib.countByte s.data.toList c))∧w'=w:=Any.strings_Count_one Tryz.lays138 s c w
def Tryz.lays157_ren:aC:=⟨fun|157=>261|229=>256|199=>289|261=>311|311=>327|312=>328|n=>n,fun|9=>9|31=>69|3=>3|5=>5|4=>4|119=>341|0=>0|40=>254|152=>338|21=>21|154=>340|51=>238|141=>367|196=>393|193=>390|198=>396|49=>394|194=>391|201=>399|226=>417|46=>188|227=>418|n=>n,fun|0=>1|6=>3|n=>n⟩
theorem Tryz.lays157:fP aA Tryz.lays157_ren:={
 mixed:=kR
 f157:=func261.trans (zC some kR)
 f199:=func289.trans (zC some kR)
 f229:=func256.trans (zC some kR)
 f261:=func311.trans (zC some kR)
 f311:=func327.trans (zC some kR)
 f312:=func328.trans (zC some kR)
 t0:=underlying0
 a0:=isAgg0
 z0:=sizeOf0
 v0:=zeroValue0
 t3:=underlying3
 a3:=isAgg3
 z3:=sizeOf3
 v3:=zeroValue3
 t4:=underlying4
 a4:=isAgg4
 z4:=sizeOf4
 v4:=zeroValue4
 t5:=underlying5
 a5:=isAgg5
 z5:=sizeOf5
 v5:=zeroValue5
 t9:=underlying9
 a9:=isAgg9
 z9:=sizeOf9
 v9:=zeroValue9
 t21:=underlying21
 a21:=isAgg21
 z21:=sizeOf21
 v21:=zeroValue21
 t31:=underlying69
 a31:=isAgg69
 z31:=sizeOf69
 v31:=zeroValue69
 t40:=underlying254
 a40:=isAgg254
 z40:=sizeOf254
 v40:=zeroValue254
 t46:=underlying188
 a46:=isAgg188
 z46:=sizeOf188
 v46:=zeroValue188
 t49:=underlying394
 a49:=isAgg394
 z49:=sizeOf394
 v49:=zeroValue394
 t51:=underlying238
 a51:=isAgg238
 z51:=sizeOf238
 v51:=zeroValue238
 t119:=underlying341
 a119:=isAgg341
 z119:=sizeOf341
 t141:=underlying367
 a141:=isAgg367
 z141:=sizeOf367
 v141:=zeroValue367
 t152:=underlying338
 a152:=isAgg338
 z152:=sizeOf338
 v152:=zeroValue338
 t154:=underlying340
 a154:=isAgg340
 z154:=sizeOf340
 v154:=zeroValue340
 t193:=underlying390
 a193:=isAgg390
 z193:=sizeOf390
 v193:=zeroValue390
 t194:=underlying391
 a194:=isAgg391
 z194:=sizeOf391
 v194:=zeroValue391
 t196:=underlying393
 a196:=isAgg393
 z196:=sizeOf393
 v196:=zeroValue393
 t198:=underlying396
 a198:=isAgg396
 z198:=sizeOf396
 v198:=zeroValue396
 t201:=underlying399
 a201:=isAgg399
 z201:=sizeOf399
 v201:=zeroValue399
 t226:=underlying417
 a226:=isAgg417
 z226:=sizeOf417
 v226:=zeroValue417
 t227:=underlying418
 a227:=isAgg418
 z227:=sizeOf418
 v227:=zeroValue418
 g0:=kR
 g6:=by kernel_rfl }
def Tryz.lays151_ren:aC:=⟨fun|151=>195|152=>239|137=>217|119=>268|224=>269|225=>270|217=>260|266=>288|n=>n,fun|9=>9|21=>21|4=>4|3=>3|5=>5|0=>0|46=>188|n=>n,fun|n=>n⟩
theorem Tryz.lays151:fQ aA Tryz.lays151_ren:={
 mixed:=kR
 f119:=func268.trans (zC some kR)
 f137:=func217.trans (zC some kR)
 f151:=func195.trans (zC some kR)
 f152:=func239.trans (zC some kR)
 f217:=func260.trans (zC some kR)
 f224:=func269.trans (zC some kR)
 f225:=func270.trans (zC some kR)
 f266:=func288.trans (zC some kR)
 t0:=underlying0
 a0:=isAgg0
 z0:=sizeOf0
 v0:=zeroValue0
 t3:=underlying3
 a3:=isAgg3
 z3:=sizeOf3
 v3:=zeroValue3
 t4:=underlying4
 a4:=isAgg4
 z4:=sizeOf4
 v4:=zeroValue4
 t5:=underlying5
 a5:=isAgg5
 z5:=sizeOf5
 v5:=zeroValue5
 t9:=underlying9
 a9:=isAgg9
 z9:=sizeOf9
 v9:=zeroValue9
 t21:=underlying21
 a21:=isAgg21
 z21:=sizeOf21
 v21:=zeroValue21
 t46:=underlying188
 a46:=isAgg188
 z46:=sizeOf188
 v46:=zeroValue188 }
open Go.RowKit Go.Lib in
theorem Tryz.strings_ContainsRune_ascii s r w (h0:0≤r)(h1:r<128):
 Calls aA 195 #[.string s,.int .i32 r] w fun e w'=>e= .returned (.bool (decide (0≤aQ s.data.toList r.toNat.toUInt8)))∧w'=w:=Any.strings_ContainsRune_ascii Tryz.lays151 s r w h0 h1
open Go.RowKit Go.Lib in
theorem Tryz.strings_Fields_any s w (O:s.size<4294967281)(N:Lib.TabIs aA w "strings.asciiSpace" .u8 Lib.asciiSpaceTab)(W:Lib.WhiteTab 3 w):
 Calls aA 261 #[.string s] w fun e w'=>∃A,e= .returned (.slice (some ⟨A,0,none⟩) (bD s.data.toList).length (bD s.data.toList).length)∧w.heap.size≤A∧
  w'.ownsRow w.heap.size 9 1 (.slice (some ⟨A,0,none⟩) (bD s.data.toList).length (bD s.data.toList).length) (bD s.data.toList).length ((bD s.data.toList).map fun x=>eX ⟨x.toArray⟩)∧Below w.heap.size w w':=Any.strings_Fields_any Tryz.lays157 kR kR kR s w O N W
def Tryz.a9y:aC:=⟨fun|229=>256|n=>n,fun|9=>9|40=>254|31=>69|152=>338|3=>3|0=>0|4=>4|21=>21|154=>340|n=>n,fun|n=>n⟩
theorem Tryz.b9p:fU aA Tryz.a9y:={
 mixed:=kR
 f229:=func256.trans (zC some kR)
 t0:=underlying0
 a0:=isAgg0
 z0:=sizeOf0
 v0:=zeroValue0
 t3:=underlying3
 a3:=isAgg3
 z3:=sizeOf3
 v3:=zeroValue3
 t4:=underlying4
 a4:=isAgg4
 z4:=sizeOf4
 v4:=zeroValue4
 t9:=underlying9
 a9:=isAgg9
 z9:=sizeOf9
 v9:=zeroValue9
 t21:=underlying21
 a21:=isAgg21
 z21:=sizeOf21
 v21:=zeroValue21
 t31:=underlying69
 a31:=isAgg69
 z31:=sizeOf69
 v31:=zeroValue69
 t40:=underlying254
 a40:=isAgg254
 z40:=sizeOf254
 v40:=zeroValue254
 t152:=underlying338
 a152:=isAgg338
 z152:=sizeOf338
 v152:=zeroValue338
 t154:=underlying340
 a154:=isAgg340
 z154:=sizeOf340
 v154:=zeroValue340 }
open Go.RowKit Go.Lib in
theorem Tryz.strings_FieldsFunc_grows g N (eg:∀args w,(callFunc g args).run aA w= .ok (.enter g args) w) p s w (O:s.size≤4294967296)(W:PredGrows aA g N p w):
 Calls aA 256 #[.string s,.func (.func g) #[] N] w fun e w'=>∃A,e= .returned (.slice (some ⟨A,0,none⟩) (aW p s).length (aW p s).length)∧w.heap.size≤A∧
  w'.ownsRow w.heap.size 9 1 (.slice (some ⟨A,0,none⟩) (aW p s).length (aW p s).length) (aW p s).length ((aW p s).map eX)∧Below w.heap.size w w':=Any.strings_FieldsFunc_grows Tryz.b9p g N eg p s w O W kR kR
def Tryz.lays110_ren:aC:=⟨fun|110=>116|109=>179|n=>n,fun|31=>69|9=>9|4=>4|3=>3|0=>0|n=>n,fun|n=>n⟩
theorem Tryz.lays110:fV aA Tryz.lays110_ren:={
 mixed:=kR
 f109:=func179.trans (zC some kR)
 f110:=func116.trans (zC some kR)
 t0:=underlying0
 a0:=isAgg0
 z0:=sizeOf0
 v0:=zeroValue0
 t3:=underlying3
 a3:=isAgg3
 z3:=sizeOf3
 v3:=zeroValue3
 t4:=underlying4
 a4:=isAgg4
 z4:=sizeOf4
 v4:=zeroValue4
 t9:=underlying9
 a9:=isAgg9
 z9:=sizeOf9
 v9:=zeroValue9
 t31:=underlying69
 a31:=isAgg69
 z31:=sizeOf69
 v31:=zeroValue69 }
open Go.Lib in
theorem Tryz.slices_Contains_string b off n c (zs:List ByteArray) x w (O:n≤zs.length)(N:n≤9223372036854775807)(W:∀j,j<zs.length→w.cell? ⟨b,off+j,none⟩=some (.string (zs.getD j ByteArray.empty))):
 Calls aA 116 #[.slice (some ⟨b,off,none⟩) n c,.string x] w fun e w'=>e= .returned (.bool (Lib.containsS (zs.take n) x))∧w'=w:=Any.slices_Contains_string Tryz.lays110 b off n c zs x w O N W
end Go.Proofs
section
namespace Go.Sx
theorem b8Y l:(CW l).all eF=true:=by simp[CW,u8,eF]
theorem b5m x sp:(CW x++sp).take (x.length*1)=CW x:=by rw[dQ,←NT x];exact List.take_left
end Go.Sx
namespace Go.Proofs.YtekmeaoblpfnpaaGreatDoor
open Go Go.Sx
theorem XF{O o e}{S:World→Prop}{x y}{T E b off n c sz j:Nat}{kl}(W:o.op= .slice T x (some y) none none)(Z:ev e x=some (.slice (some ⟨b,off,Option.none⟩) n c))(hy:ev e y=some (.int kl (j:Int)))(hu:O.P.underlying T=some (.slice E))(N:∀w,(sizeOf E).run O.P w= .ok sz w)(hj:j≤n)(hc:j≤c):
 BH O o e S (.slice (some ⟨b,if c=j then off else off+j*sz,none⟩) (n-j) (c-j)):=by
 by_cases h:c=j
 ·intro a w ha _;have h1:(j:Int)≤n:=oM;simp[execOp,W,ha.eval Z,ha.eval hy,Instr.sliceAt,Instr.slice,run_underlying hu,Instr.sliceBounds,run_sliceBound,h1,N,h]
 rw[zD h];exact a8W W Z hy hu N hj oM
theorem yV.none{α:Type}{l:List α}{i}(h:i≤l.length):yV l i [] l:=⟨by simpa using h,sI⟩
theorem b9v{E x n}(h:E.length+x.length≤n):yV (buf E n) (if n=E.length then 0 else 0+E.length*1) (CW x) (buf (E++x) n):=by
 by_cases hc:n=E.length
 ·have:x=[]:=List.length_eq_zero_iff.1 oM;subst this;rw[zF hc,cO];exact yV.none (bF _)
 rw[zD hc,Nat.zero_add,dQ];exact b9u h
theorem b5o s c I:Pure aA 373 [str s,str [c]] I (i64 (s.count c)):=
 eY (bJ Tryz.func373 dE rfl) fun w _=>by
  have h:=Tryz.strings_Count_one ⟨s.toArray⟩ c w;rw[LZ]at h;exact h
end Go.Proofs.YtekmeaoblpfnpaaGreatDoor
end
namespace Rp
abbrev Tb:=UInt8→Option (List UInt8)
def one (r:Tb) (c:UInt8):List UInt8:=(r c).getD [c]
def rep (r:Tb) (s:List UInt8):List UInt8:=s.flatMap (one r)
def two (a:UInt8) (x:List UInt8) (b:UInt8) (y:List UInt8):Tb:=fun c=>if c=a then some x else if c=b then some y else none
def w (r:Tb) (c:UInt8):Int:=(one r c).length-1
def gain (r:Tb) (s:List UInt8):Int:=(s.map (w r)).sum
def hits (r:Tb) (s:List UInt8):Nat:=s.countP fun c=>(r c).isSome
theorem a3A r s:((rep r s).length:Int)=s.length+gain r s:=by
 induction s with
 |nil=>rfl
 |cons c s N=>
  have h1:(rep r (c::s)).length=(one r c).length+(rep r s).length:=by simp[rep]
  have h2:gain r (c::s)=w r c+gain r s:=by simp[gain]
  rw[h1,h2,aU];unfold w;omega
theorem a8m{r}:∀{s:List UInt8},hits r s=0→rep r s=s
 |[],_=>rfl
 |c::s,h=>by
  unfold hits at h;rw[dR]at h;have N:r c=none:=by
   cases hr:r c with
   |none=>rfl
   |some x=>rw[hr]at h;simp at h
  have:=a8m (r:=r) (s:=s) (by unfold hits;omega);show one r c++rep r s=c::s;rw[this];unfold one;rw[N];rfl
theorem KT{s:List UInt8}{k c}(h:s[k]?=some c):s.take (k+1)=s.take k++[c]:=by
 rw[List.take_add_one,h];rfl
theorem b6z r {s:List UInt8}{k c}(h:s[k]?=some c):rep r (s.take (k+1))=rep r (s.take k)++one r c:=by
 rw[KT h];simp[rep]
theorem b4f r {s:List UInt8}{k c}(h:s[k]?=some c):gain r (s.take (k+1))=gain r (s.take k)+w r c:=by
 rw[KT h];simp[gain]
theorem b4P r {s:List UInt8}{k c}(h:s[k]?=some c):hits r (s.take (k+1))=hits r (s.take k)+if (r c).isSome then 1 else 0:=by
 rw[KT h];simp[hits,List.countP_append,dR]
theorem a6X r s k:(rep r (s.take k)).length≤(rep r s).length:=by
 have h:rep r s=rep r (s.take k)++rep r (s.drop k):=by
  unfold rep;rw[←List.flatMap_append,dF]
 rw[h,bK];omega
def Two (r:Tb):Prop:=∀c x,r c=some x→x.length≤2
theorem b2s{r}(h:Two r) c: -1≤w r c∧w r c≤1:=by
 unfold w one;cases hr:r c with
 |none=>simp
 |some x=>have:=h c x hr;simp;omega
theorem a3i{r}(h:Two r):∀s:List UInt8,-(s.length:Int)≤gain r s∧gain r s≤s.length
 |[]=>by simp[gain]
 |c::s=>by
  have h1:=a3i h s;have h2:=b2s h c;simp only[gain,aK,bT,aU]at h1 ⊢;omega
def cg (r:Tb) (s:List UInt8) (ks:List UInt8):Int:=(ks.map fun k=>(s.count k:Int)*w r k).sum
def cn (s:List UInt8) (ks:List UInt8):Nat:=(ks.map fun k=>s.count k).sum
theorem b8E r s {ks:List UInt8}{i k}(h:ks[i]?=some k):cg r s (ks.take (i+1))=cg r s (ks.take i)+s.count k*w r k:=by
 rw[KT h];simp[cg]
theorem b8w s {ks:List UInt8}{i k}(h:ks[i]?=some k):cn s (ks.take (i+1))=cn s (ks.take i)+s.count k:=by
 rw[KT h];simp[cn]
theorem b0n r c s:∀(ks:List UInt8),ks.Nodup→cg r (c::s) ks=cg r s ks+if c∈ks then w r c else 0
 |[],_=>by simp[cg]
 |k::ks,h=>by
  obtain⟨h1,h2⟩:=List.nodup_cons.1 h;have N:=b0n r c s ks h2;simp only[cg,aK,bT,List.count_cons]at N ⊢
  by_cases hk:c=k
  ·subst hk;rw[zD h1]at N;simp only[beq_self_eq_true,if_true,bU,true_or];rw[N]
   push_cast
   rw[Int.add_mul];omega
  have O:(c == k)=false:=by simpa using hk
  simp only[O,bU,hk,false_or];rw[N];simp;omega
theorem b4s{r ks}(N:ks.Nodup)(O:∀c,c∈ks↔(r c).isSome=true):∀s:List UInt8,cg r s ks=gain r s
 |[]=>by
  have h:∀l:List UInt8,(l.map fun k=>(([]:List UInt8).count k:Int)*w r k).sum=0:=fun l=>by
   induction l with
   |nil=>rfl
   |cons k l W=>rw[aK,bT,W];simp
  exact h ks
 |c::s=>by
  rw[b0n r c s ks N,b4s N O s];simp only[gain,aK,bT]
  by_cases h:c∈ks
  ·rw[zF h];omega
  rw[zD h];have:r c=none:=by
   cases hr:r c with
   |none=>rfl
   |some x=>exact absurd ((O c).2 (by rw[hr];rfl)) h
  have Z:w r c=0:=by unfold w one;rw[this];rfl
  omega
theorem b4g{r}(h:Two r){s}(N:s.length≤1000000000):∀ks:List UInt8,-(ks.length*1000000000:Int)≤cg r s ks∧cg r s ks≤ks.length*1000000000
 |[]=>by simp[cg]
 |k::ks=>by
  have h1:=b4g h N ks;have h2:=b2s h k;have h3:s.count k≤s.length:=bH;have O:cg r s (k::ks)=s.count k*w r k+cg r s ks:=by simp[cg]
  have W:w r k= -1∨w r k=0∨w r k=1:=oM;rw[O,aU];rcases W with e|e|e<;>rw[e]<;>omega
theorem mul_two{r}(h:Two r){s:List UInt8}(O:s.length≤1000000000) k: -1000000000≤s.count k*w r k∧s.count k*w r k≤1000000000:=by
 have h2:=b2s h k;have h3:s.count k≤s.length:=bH;have N:w r k= -1∨w r k=0∨w r k=1:=oM;rcases N with e|e|e<;>rw[e]<;>omega
theorem b9h{r ks}(O:∀c,c∈ks↔(r c).isSome=true){s}(h:cn s ks=0):hits r s=0:=by
 have h0:∀k∈ks,s.count k=0:=by
  intro k N;unfold cn at h;exact List.sum_eq_zero_iff_forall_eq_nat.1 h _ (List.mem_map_of_mem N)
 unfold hits;rw[List.countP_eq_zero];intro c W Z;have:=h0 c ((O c).2 Z);rw[List.count_eq_zero]at this;exact this W
end Rp
section
namespace Go.Proofs.YtekmeaoblpfnpaaGreatDoor
open _root_.Go.Proofs.Tryz
open Go Go.Sx
def VOf (I:Heap) (o:Option (List UInt8)) (v:Value):Prop:=(o=none∧v= .slice none 0 0)∨∃x,o=some x∧a2h I x v
theorem VOf.mono{I N o v}(h:VOf I o v)(O:Le I N):VOf N o v:=h.imp id fun⟨x,h1,h2⟩=>⟨x,h1,h2.mono O⟩
def BSG (r:Rp.Tb) (I:Heap) (xb:Nat):Prop:=∃(V:Nat→Value) (tr:Value) (ks:List UInt8),I xb=some (zJ 364 (tab V tr))∧IG 9 I (ks.map fun k=>[k]) tr∧ks.Nodup∧(∀c,c∈ks↔(r c).isSome=true)∧ks.length≤256∧Rp.Two r∧∀c:UInt8,VOf I (r c) (V c.toNat)
theorem BSG.mono{r I O W}(h:BSG r I W)(N:Le I O):BSG r O W:=let ⟨V,tr,ks,h1,h2,h3,Z,h5,h6,h7⟩:=h;⟨V,tr,ks,N _ _ h1,h2.mono N,h3,Z,h5,h6,fun c=>(h7 c).mono N⟩
theorem b6w r xb s (hs:s.length≤1000000000) I (hb:BSG r I xb):Pure aA 371 [ptr xb 0,str s] I (str (Rp.rep r s)):=by
 refine yY.toPure ?_;obtain⟨V,tr,ks,Z,⟨tb,tc,_,rfl,ao⟩,ap,a7,aq,a1,hV⟩:=hb;rw[List.length_map]at Z;have b0:=Rp.a3i a1 s;have b1:=Rp.a3A r s;refine zO func371 fun w0 _=>?_;refine yU 17 ?_;refine Cj.join (ι:=Bool) (fun y=>y=false→Rp.rep r s=s) (fun y=>[(0,ptr xb 0),(1,str s),(5,i64 ((Rp.rep r s).length:Int)),(6,.bool y)]) (fun y=>I) (fun y=>[]) ?_ (fun a8=>?_)
 ·intro y hy;refine FB ?_ ?_<;>intro ab
  ·refine BL ?_;rw[hy (by have h:=ab;simpa using h)];exact rT
  refine yU 5 ?_;refine aT rfl (XB (n:=(Rp.rep r s).length) (c:=(Rp.rep r s).length) (by1:=1) (z:=(.int .u8 0)) rfl rfl rfl rfl rfl JV kR rfl oM oM oM ?_);intro b2 _;refine yU 15 ?_;refine dM (ι:=Nat) (fun j=>j≤s.length) (fun j=>s.length-j) (fun j=>[(0,ptr xb 0),(1,str s),(12,.slice (some ⟨b2,0,none⟩) (Rp.rep r s).length (Rp.rep r s).length),(13,i64 ((Rp.rep r (s.take j)).length:Int)),(14,i64 (j:Int))]) (fun j=>I) (fun j=>[(b2,zJ 5 (buf (Rp.rep r (s.take j)) (Rp.rep r s).length))]) 0 (bF _) rT rfl (by rw[List.take_zero];exact zC (fun l=>[(_,zJ 5 l)]) (b9s _)) ?_;intro j hj;have ar:=Rp.a6X r s j;refine AB ?_ ?_<;>intro au aj
  ·have a4:j<s.length:=oM;obtain⟨c,a0⟩:∃c,s[j]?=some c:=⟨_,CO a4⟩;have ac:=Rp.b6z r a0;have az:=Rp.a6X r s (j+1);refine yU 8 ?_;refine aJ (EL rfl rfl rfl CY oM a0) ?_;refine yU 5 ?_;rcases hV c with⟨O,W⟩|⟨x,O,l,cc,sp,fr,W,hl⟩
   ·have N:Rp.one r c=[c]:=by unfold Rp.one;rw[O];rfl
    have hw:Rp.w r c=0:=by unfold Rp.w;rw[N];rfl
    have a2:Rp.rep r (s.take (j+1))=Rp.rep r (s.take j)++[c]:=ac.trans (by rw[N]);have a5:(Rp.rep r (s.take (j+1))).length=(Rp.rep r (s.take j)).length+1:=by rw[a2,bK];rfl
    refine yU 4 ?_;refine aJ (EJ (off':=c.toNat) rfl rfl rfl a0s RH oM (by have:=c.toNat_lt;omega) sI) ?_;refine aJ (zU rfl rfl QV (aX Z) (KR _ _ c.toNat_lt)) ?_;refine dS 100 (.slice none 0 0) rfl W ?_;refine AZ ((Rp.rep r (s.take j)).length) ?_;refine aT rfl (IZ 0 rfl rfl rfl rfl rfl rfl ZM rfl (.inl rfl) (by rw[b0e ar];omega) (by rw[b8I _ oM];exact bM) ?_);refine yU 14 ?_;refine bG (j+1) oM oM ⟨rfl,rfl,rfl,by rw[a5];rfl,rfl,trivial⟩ rfl (zC (fun l=>[(_,zJ _ (buf l _))]) a2)
   have ad:=a1 c x O;have N:Rp.one r c=x:=by unfold Rp.one;rw[O];rfl
   have hw:Rp.w r c=(x.length:Int)-1:=by unfold Rp.w;rw[N]
   have a2:Rp.rep r (s.take (j+1))=Rp.rep r (s.take j)++x:=ac.trans (by rw[N]);have a5:(Rp.rep r (s.take (j+1))).length=(Rp.rep r (s.take j)).length+x.length:=by rw[a2,bK]
   refine yU 4 ?_;refine aJ (EJ (off':=c.toNat) rfl rfl rfl a0s RH oM (by have:=c.toNat_lt;omega) sI) ?_;refine aJ (zU rfl rfl QV (aX Z) (KR _ _ c.toNat_lt)) ?_;refine dS 100 (.slice (some ⟨l,0,none⟩) x.length cc) rfl W ?_;refine yU 4 ?_;refine dW [] [] 13 kR ?_;refine yU 3 ?_;refine cZ 3 rfl (XF rfl rfl rfl JV ZM oM oM) ?_;refine yU 4 ?_;refine cZ 8 rfl (EJ (off':=c.toNat) rfl rfl rfl a0s RH oM (by have:=c.toNat_lt;omega) sI) ?_;refine cZ 9 rfl (zU rfl rfl QV (yZ.GY Z) (KR _ _ c.toNat_lt)) ?_;refine eU 111 (.slice (some ⟨l,0,none⟩) x.length cc) rfl W ?_;refine zT 10 rfl (b8a (m:=x.length) 0 rfl rfl rfl rfl rfl JV ZM (eG (ys:=CW x) (aX hl) (by rw[dG];exact b5m x sp) (by rw[NT,dQ]) (b8Y x)) oM rfl (b9v (E:=Rp.rep r (s.take j)) (x:=x) (n:=(Rp.rep r s).length) oM) bM ?_);refine yU 11 ?_;refine bG (j+1) oM oM ⟨rfl,rfl,rfl,by rw[a5];rfl,rfl,trivial⟩ rfl (zC (fun l=>[(_,zJ _ (buf l _))]) a2)
  have a3:s.take j=s:=aI oM;refine yU 8 ?_;refine aJ (PI (Rp.rep r s) rfl rfl rfl JV CY ZW (yZ.at 0 rfl) (by rw[a3,b5X rfl,cO];exact aI (by rw[dG,NT];exact Nat.le_refl _))) ?_;refine BL ?_;exact rT
 refine yU 5 ?_;refine aJ (zU rfl rfl a1E (aX Z) (ZQ _ _)) ?_;refine AB ?_ ?_<;>intro av al
 ·refine yU 5 ?_;refine aJ (zU rfl rfl a1E (aX Z) (ZQ _ _)) ?_;refine yU 5 ?_;refine dM (ι:=Nat) (fun i=>i≤ks.length) (fun i=>ks.length-i) (fun i=>[(0,ptr xb 0),(1,str s),(5,i64 ((s.length:Int)+Rp.cg r s (ks.take i))),(6,.bool (decide (0<Rp.cn s (ks.take i)))),(30,.slice (some ⟨tb,0,none⟩) ks.length tc),(31,i64 (ks.length:Int)),(32,i64 (i:Int))]) (fun i=>I) (fun i=>[]) 0 (bF _) ⟨rfl,rfl,(zC (fun z=>some (aG .i64 z)) (by simp[Rp.cg])),rfl,rfl,rfl,rfl,trivial⟩ rfl rfl ?_;intro i hi;have aw:=Rp.b4g a1 hs (ks.take i);rw[dU,dX hi]at aw;refine AB ?_ ?_<;>intro ax am
  ·have a4:i<ks.length:=oM;obtain⟨k,hk⟩:∃k,ks[i]?=some k:=⟨_,CO a4⟩;have ae:=Rp.b8E r s hk;have af:=Rp.b8w s hk;have hm:=Rp.mul_two a1 hs k;have aq:=k.toNat_lt;have hcl:s.count k≤s.length:=bH;obtain⟨x,ag,l,cc,sp,fr,W,hl⟩:=(hV k).resolve_left fun g=>by have:=(a7 k).1 (CG hk);rw[g.1]at this;cases this
   have ad:=a1 k x ag;have hw:Rp.w r k=(x.length:Int)-1:=by unfold Rp.w Rp.one;rw[ag];rfl
   refine AZ i ?_;refine aJ (zU rfl rfl JK (aX ao) (KQ (x:=[k]) (by rw[List.getElem?_map,hk];rfl))) ?_;refine BD (b5o s k _) ?_;refine AB ?_ ?_<;>intro a6 a9
   ·have h0:s.count k≠0:=by have h:=a6;simpa using h
    refine yU 1 ?_;refine dW [] [] 14 kR ?_;refine yU 4 ?_;refine cZ 4 rfl (EL rfl rfl rfl CY dE rfl) ?_;refine yU 2 ?_;refine cZ 7 rfl (EJ (off':=k.toNat) rfl rfl rfl a0s RH oM (by have:=k.toNat_lt;omega) sI) ?_;refine cZ 8 rfl (zU rfl rfl QV (yZ.GY Z) (KR _ _ k.toNat_lt)) ?_;refine eU 49 (.slice (some ⟨l,0,none⟩) x.length cc) rfl W ?_;refine yU 2 ?_;refine eU 51 (i64 (Rp.w r k)) rfl (zC i64 hw.symm) ?_;refine yU 14 ?_;refine bG (i+1) oM oM ⟨rfl,rfl,(zC (fun z=>some (aG .i64 z)) (by rw[ae];omega)),(zC (fun z=>some (bI z)) (by rw[af];exact(zH oM).symm)),rfl,rfl,rfl,trivial⟩ rfl rfl
   have h0:s.count k=0:=by have h:=a6;simpa using h
   refine yU 7 ?_;refine bG (i+1) oM oM ⟨rfl,rfl,(zC (fun z=>some (aG .i64 z)) (by rw[ae,h0];omega)),(zC (fun z=>some (bI z)) (by rw[af,h0];rfl)),rfl,rfl,rfl,trivial⟩ rfl rfl
  have a3:ks.take i=ks:=aI oM;refine yU 4 ?_;exact a8 (decide (0<Rp.cn s ks)) _ _ _ (fun h=>Rp.a8m (Rp.b9h a7 (by have:=JE h;omega))) ⟨rfl,rfl,(zC (fun z=>some (aG .i64 z)) (by rw[a3,Rp.a3A,Rp.b4s ap a7])),(zC (fun l=>some (bI (decide (0<Rp.cn s l)))) a3),trivial⟩ rfl rfl
 refine yU 6 ?_;refine dM (ι:=Nat) (fun j=>j≤s.length) (fun j=>s.length-j) (fun j=>[(0,ptr xb 0),(1,str s),(5,i64 ((s.length:Int)+Rp.gain r (s.take j))),(6,.bool (decide (0<Rp.hits r (s.take j)))),(10,i64 (j:Int))]) (fun j=>I) (fun j=>[]) 0 (bF _) ⟨rfl,rfl,(zC (fun z=>some (aG .i64 z)) (by simp[Rp.gain])),rfl,rfl,trivial⟩ rfl rfl ?_;intro j hj;have ay:=Rp.a3i a1 (s.take j);rw[dU,dX hj]at ay;refine AB ?_ ?_<;>intro an aa
 ·have a4:j<s.length:=oM;obtain⟨c,a0⟩:∃c,s[j]?=some c:=⟨_,CO a4⟩;have ah:=Rp.b4f r a0;have ai:=Rp.b4P r a0;refine yU 8 ?_;refine aJ (EL rfl rfl rfl CY oM a0) ?_;refine yU 5 ?_;rcases hV c with⟨O,W⟩|⟨x,O,l,cc,sp,fr,W,hl⟩
  ·have N:Rp.one r c=[c]:=by unfold Rp.one;rw[O];rfl
   have hw:Rp.w r c=0:=by unfold Rp.w;rw[N];rfl
   refine yU 4 ?_;refine aJ (EJ (off':=c.toNat) rfl rfl rfl a0s RH oM (by have:=c.toNat_lt;omega) sI) ?_;refine aJ (zU rfl rfl QV (aX Z) (KR _ _ c.toNat_lt)) ?_;refine dS 69 (.slice none 0 0) rfl W ?_;refine yU 12 ?_;refine bG (j+1) oM oM ⟨rfl,rfl,(zC (fun z=>some (aG .i64 z)) (by rw[ah,hw];omega)),(zC (fun z=>some (bI z)) (by rw[ai,O];rfl)),rfl,trivial⟩ rfl rfl
  have ad:=a1 c x O;have N:Rp.one r c=x:=by unfold Rp.one;rw[O];rfl
  have hw:Rp.w r c=(x.length:Int)-1:=by unfold Rp.w;rw[N]
  refine yU 4 ?_;refine aJ (EJ (off':=c.toNat) rfl rfl rfl a0s RH oM (by have:=c.toNat_lt;omega) sI) ?_;refine aJ (zU rfl rfl QV (aX Z) (KR _ _ c.toNat_lt)) ?_;refine dS 69 (.slice (some ⟨l,0,none⟩) x.length cc) rfl W ?_;refine yU 11 ?_;refine aJ (EJ (off':=c.toNat) rfl rfl rfl a0s RH oM (by have:=c.toNat_lt;omega) sI) ?_;refine aJ (zU rfl rfl QV (aX Z) (KR _ _ c.toNat_lt)) ?_;refine dS 77 (.slice (some ⟨l,0,none⟩) x.length cc) rfl W ?_;refine yU 16 ?_;refine bG (j+1) oM oM ⟨rfl,rfl,(zC (fun z=>some (aG .i64 z)) (by rw[ah,hw];omega)),(zC (fun z=>some (bI z)) (by rw[ai,O];exact(zH (Nat.succ_pos _)).symm)),rfl,trivial⟩ rfl rfl
 have a3:s.take j=s:=aI oM;refine yU 4 ?_;exact a8 (decide (0<Rp.hits r s)) _ _ _ (fun h=>Rp.a8m (by have:=JE h;omega)) ⟨rfl,rfl,(zC (fun z=>some (aG .i64 z)) (by rw[a3,Rp.a3A])),(zC (fun l=>some (bI (decide (0<Rp.hits r l)))) a3),trivial⟩ rfl rfl
end Go.Proofs.YtekmeaoblpfnpaaGreatDoor
end
section
namespace Go.Proofs.YtekmeaoblpfnpaaGreatDoor
open _root_.Go.Proofs.Tryz
open Go Go.Sx
theorem _root_.Go.Sx.yX.tr{H H'}{i b T:Nat}{f tr v}(h:yX H i (b,zJ T (tab f v)) H'):yX H i (b,.cells ((tab f tr).set 256 v).toArray T) H':=by rw[b4u];exact h
theorem _root_.Go.Sx.yX.tb{H H'}{i b T k:Nat}{f:Nat→Value}{tr v:Value}(N:k<256)(h:yX H i (b,zJ T (tab (fun j=>if j=k then v else f j) tr)) H'):yX H i (b,.cells ((tab f tr).set k v).toArray T) H':=by rw[b8d _ _ _ N];exact h
def VP (olds:List (List UInt8)) (r:Rp.Tb):Prop:=∀(rb:Nat) (a0 a1 a2 a3 osl:Value) (I:Heap),IG 9 I olds osl→yY aA 279 [ptr rb 0] I [(rb,zJ 308 [a0,a1,a2,a3,osl])]
 (fun e I' H'=>∃xb,e= .returned (.iface 365 (ptr xb 0))∧BSG r I' xb∧H'=[(rb,zJ 308 [a0,a1,a2,a3,osl])])
theorem BSG.two{a b x y}(O:b≠a)(hx:x.length≤2)(hy:y.length≤2){I Z v1 v2 tr}(h:I Z=some (zJ 364 (tab (fun j=>if j=a.toNat then v2 else if j=b.toNat then v1 else .slice none 0 0) tr)))(h1:a2h I y v1)(h2:a2h I x v2)(h3:IG 9 I [[b],[a]] tr):BSG (Rp.two a x b y) I Z:=by
 refine⟨_,tr,[b,a],h,h3,by simp[O],fun c=>?_,sI,fun c z N=>?_,fun c=>?_⟩
 ·unfold Rp.two
  by_cases ha:c=a
  ·simp[ha]
  by_cases hb:c=b
  ·simp[hb,O]
  simp[ha,hb]
 ·unfold Rp.two at N
  split at N
  ·cases N;exact hx
  split at N
  ·cases N;exact hy
  cases N
 unfold Rp.two
 by_cases ha:c=a
 ·subst ha;exact .inr ⟨x,zF rfl,by rw[zF rfl];exact h2⟩
 have W:¬c.toNat=a.toNat:=fun e=>ha (dY.1 e)
 by_cases hb:c=b
 ·subst hb;exact .inr ⟨y,by rw[zD ha,zF rfl],by rw[zD W,zF rfl];exact h1⟩
 have a0:¬c.toNat=b.toNat:=fun e=>hb (dY.1 e);exact .inl ⟨by rw[zD ha,zD hb],by rw[zD W,zD a0]⟩
theorem b0Z N T off cs x (O:cs[off]?=some (.int .u32 x)) I:yY aA 277 [ptr N off] I [(N,zJ T cs)] (fun e W H'=>e= .returned (.bool (x != 0))∧H'=[(N,zJ T cs)]):=
 yY.b8h (bJ func277 dE rfl) O fun w h=>Sync.b2T ⟨N,off,none⟩ x w h
theorem b8V N T d O r o I:yY aA 304 [ptr N 1] I [(N,zJ T [d,.int .i32 0,O,r,o])] (fun e W H'=>e= .returned (.tuple #[])∧H'=[(N,zJ T [d,.int .i32 1,O,r,o])]):=
 yY.a3M (off:=1) (bJ func304 dE rfl) rfl fun w h h2=>Sync.lock_free ⟨N,1,none⟩ w h h2
theorem b4J N T d O r o I:a0N aA 305 [ptr N 1] .returning I [(N,zJ T [d,.int .i32 1,O,r,o])] (fun W I' H'=>W= .returning∧H'=[(N,zJ T [d,.int .i32 0,O,r,o])]):=
 a0N.a3M (off:=1) (v:= .tuple #[]) (bJ func305 dE rfl) rfl fun w h h2=>(Sync.unlock_deferred ⟨N,1,none⟩ .returning w h h2).mono fun _ _ _ ⟨Z,g2,g3⟩=>⟨Z,g2,.inl g3⟩
theorem b5p N T x m O r o I:a0N aA 306 [ptr N 0,.bool true] .returning I [(N,zJ T [x,m,O,r,o])] (fun W I' H'=>W= .returning∧H'=[(N,zJ T [.int .u32 1,m,O,r,o])]):=
 a0N.a3M (off:=0) (v:= .tuple #[]) (bJ func306 dE rfl) rfl fun w h h2=>(Sync.store_deferred ⟨N,0,none⟩ x .returning w h h2).mono fun _ _ _ ⟨Z,g2,g3⟩=>⟨Z,g2,.inr g3⟩
theorem ZX p q r z ob oc I:yY aA 197 [.slice (some ⟨ob,0,none⟩) 4 oc] I [(ob,zJ 9 ([p,q,r,z].map str))]
 (fun e I' H'=>∃W N,e= .returned (ptr W 0)∧H'=[(W,zJ 308 [.int .u32 0,.int .i32 0,.int .u32 0,.nilIface,N])]∧IG 9 I' [p,q,r,z] N):=by
 refine zO func197 fun w0 _=>?_;refine yU 20 ?_;refine aT rfl (CP (by':=15) (n:=0) (g:=none) (xs:=[]) [_] rfl rfl rfl rfl rfl FQ (.inr ⟨_,FQ⟩) kR EI YL rfl rT rfl (eG (yZ.at 0 rfl) rfl rfl rfl) oM ?_);intro _ Z;refine aJ (AQ (pl:= #[(0,3),(3,1),(4,1)]) rfl rfl zeroValue308 rfl underlying308 (fun w=>by simp[sizeOf304,sizeOf306,YX]) (AO.part rfl (a0A _ _) rfl lsA AO.none)) ?_;refine yU 1 ?_;intro b3 _;refine yU 4 ?_;obtain⟨gb,gc,a0,rfl,a1⟩:=Z.some dE;refine Ej.pull (aS (aS aY)) ?_;refine dZ a1 (fun _ _ O=>?_);refine Ej.keep (fA (dH fB)) ?_;refine zZ ?_;exact⟨b3,_,rfl,rfl,gb,gc,a0,rfl,O⟩
def a2W (rb:Nat) (d m sm r o:Value):HL:=[(rb,zJ 308 [d,m,sm,r,o])]
def b6P (r:Rp.Tb) (I:Heap) (rb:Nat) (d m:Value) (H:HL):Prop:=∃xb,BSG r I xb∧H=a2W rb d m (.int .u32 0) (.iface 365 (ptr xb 0)) (.slice none 0 0)
theorem a6T{N r}(hB:VP N r) W d m O I (ho:IG 9 I N O):yY aA 245 [ptr W 0] I (a2W W d m (.int .u32 0) .nilIface O)
 (fun e I' H'=>e= .returned (.tuple #[])∧b6P r I' W d m H'):=by
 refine zO func245 fun w0 _=>?_;refine yU 4 ?_;refine bP aY ?_;refine BJ (hB W _ _ _ _ O _ ho) ?_;intro _ _ _ _ Z;obtain⟨xb,h,a0,rfl⟩:=Z;cases h;refine yU 11 ?_;refine Ej.GL rfl rfl ?_;exact⟨rfl,xb,a0,rfl⟩
theorem b3y{Z r}(hB:VP Z r) N a0 I (O:IG 9 I Z a0):yY aA 278 [ptr N 0,.func (.func 245) #[ptr N 0] #[]] I (a2W N (.int .u32 0) (.int .i32 0) (.int .u32 0) .nilIface a0)
 (fun e I' H'=>e= .returned (.tuple #[])∧b6P r I' N (.int .u32 1) (.int .i32 0) H'):=by
 refine yY.b5r func278 rfl dE (Nat.le_of_ble_eq_true rfl) ?_;intro w0 _;refine yU 5 ?_;refine bP aY ?_;refine BJ (b8V N 308 _ _ _ _ _) ?_;intro _ _ _ a2 a5;have O:=O.mono a2;obtain⟨h,rfl⟩:=a5;cases h;refine yU 7 ?_;refine J.defer rfl rfl rfl rfl rfl ?_;refine J.UQ (aJ BQ ?_);refine aJ (DF rfl rfl) ?_;refine aJ (DJ (off':=0) underlying304 sizeOf298) ?_;refine bP aY ?_;refine BJ (b0Z N 308 0 _ 0 rfl _) ?_;intro _ _ _ W a3;have O:=O.mono W;obtain⟨h,rfl⟩:=a3;cases h;refine yU 9 ?_;refine J.defer rfl rfl rfl rfl rfl ?_;refine J.nsr (aJ BQ ?_);refine bP aY ?_;refine BJ (a6T hB N _ _ a0 _ O) ?_;intro _ _ _ a1 a4;have O:=O.mono a1;obtain⟨h,xb,a6,rfl⟩:=a4;cases h;refine yU 1 ?_;refine Ej.b9w (H1:=[_]) (R1:=[]) rfl (b5p N 308 _ _ _ _ _ _) (fun _=>b4J N 308 _ _ _ _ _) (fun _ W=>b1F.none rfl ?_);exact⟨rfl,xb,a6.mono W,rfl⟩
theorem c0y{O r}(hB:VP O r) N W I (Z:IG 9 I O W):yY aA 244 [ptr N 0,.func (.func 245) #[ptr N 0] #[]] I (a2W N (.int .u32 0) (.int .i32 0) (.int .u32 0) .nilIface W)
 (fun e I' H'=>e= .returned (.tuple #[])∧b6P r I' N (.int .u32 1) (.int .i32 0) H'):=by
 refine zO func244 fun w0 _=>?_;refine yU 5 ?_;refine bP aY ?_;refine BJ (b0Z N 308 0 _ 0 rfl _) ?_;intro _ _ _ a1 a3;have Z:=Z.mono a1;obtain⟨h,rfl⟩:=a3;cases h;refine yU 7 ?_;refine bP aY ?_;refine BJ (b3y hB N W _ Z) ?_;intro _ _ _ a0 a2;have Z:=Z.mono a0;obtain⟨h,xb,a4,rfl⟩:=a2;cases h;refine yU 1 ?_;refine Ej.GL rfl rfl ?_;exact⟨rfl,xb,a4,rfl⟩
theorem a4E{N r}(hB:VP N r) W O s (hs:s.length≤1000000000) I (Z:IG 9 I N O):yY aA 198 [ptr W 0,str s] I (a2W W (.int .u32 0) (.int .i32 0) (.int .u32 0) .nilIface O)
 (fun e I' H'=>e= .returned (str (Rp.rep r s))∧H'=[]):=by
 refine zO func198 fun w0 _=>?_;refine yU 12 ?_;refine bP aY ?_;refine BJ (c0y hB W O _ Z) ?_;intro _ _ _ a0 a1;have Z:=Z.mono a0;obtain⟨h,xb,a2,rfl⟩:=a1;cases h;refine yU 9 ?_;refine aT rfl (b3l (H1:=[]) (T:=365) rfl rfl rfl rfl rfl kR underlying365 (b6w _ xb s hs _ a2) ?_ (fun _ _ _ _ h=>by cases h.1) (fun _ _ h=>by cases h.1));rintro _ _ _ _ ⟨h,rfl,rfl⟩;cases h;refine BL ?_;exact rT
end Go.Proofs.YtekmeaoblpfnpaaGreatDoor
end
section
namespace Go.Proofs.YtekmeaoblpfnpaaGreatDoor
open _root_.Go.Proofs.Tryz
open Go Go.Sx
theorem a2p:(Value.agg dN).cells=(tab (fun _=> .slice none 0 0) (.slice none 0 0)).toArray:=by
 show dN=_;kernel_rfl
theorem b4w:VP [[32],[],[45],[]] (Rp.two 32 [] 45 []):=by
 intro _ _ _ _ _ _ I ho;obtain⟨ob,_,_,rfl,W⟩:=ho;rw[show([[32],[],[45],[]]:List (List UInt8)).length=4 from rfl];refine zO func279 fun w0 _=>?_;refine yU 44 ?_;refine Cj.rounds 3 ?_;refine dI ?_;refine yU 9 ?_;refine aZ rfl (fun a6=>?_) (fun a6=>aF (aV (bC (by first|rfl|decide)) a6));refine AZ 0 ?_;refine yU 5 ?_;refine aZ rfl (fun a7=>aF (aV (bC (by first|rfl|decide)) a7)) (fun a7=>?_);refine AZ 1 ?_;refine yU 5 ?_;refine aZ rfl (fun a8=>?_) (fun a8=>aF (aV (bC (by first|rfl|decide)) a8));refine yU 10 ?_;refine dJ ?_;refine dI ?_;refine yU 9 ?_;refine aZ rfl (fun a9=>?_) (fun a9=>aF (aV (bC (by first|rfl|decide)) a9));refine AZ 2 ?_;refine yU 5 ?_;refine aZ rfl (fun aa=>aF (aV (bC (by first|rfl|decide)) aa)) (fun aa=>?_);refine AZ 3 ?_;refine yU 5 ?_;refine aZ rfl (fun ab=>?_) (fun ab=>aF (aV (bC (by first|rfl|decide)) ab));refine yU 10 ?_;refine dJ ?_;refine dI ?_;refine yU 9 ?_;refine aZ rfl (fun ac=>aF (aV (bC (by first|rfl|decide)) ac)) (fun ac=>?_);refine yU 18 ?_;refine aJ (a4l rfl rfl rfl dE dE) ?_;refine aT rfl (XB (n:=0) (c:=2) (by1:=16) (z:=(str [])) rfl rfl rfl rfl rfl FQ kR rfl oM oM oM ?_);intro ad ae;refine aJ (AQ (zs:=tab (fun _=> .slice none 0 0) (.slice none 0 0)) (cs:=tab (fun _=> .slice none 0 0) (.slice (some ⟨ad,0,none⟩) 0 2)) (pl:= #[(0,256),(256,1)]) rfl rfl zeroValue364 a2p underlying364 (fun w=>by simp[sizeOf362,YX]) (AO.part rfl rfl rfl (b0V _ _ _) AO.none)) ?_;refine aT rfl (BM (zs:=tab (fun _=> .slice none 0 0) (.slice none 0 0)) rfl rfl rfl zeroValue364 a2p ?_);intro an af;refine aT rfl (BP 0 rfl rfl rfl rfl rfl (b0X (fun _=>rfl) rfl) sizeOf364 (EU _ _) rfl (yV.all (by rw[EU,EU])) bM ?_);refine bP aY ?_;refine bP (aS (aS aY)) ?_;refine yU 12 ?_;refine Cj.rounds 3 ?_;refine dI ?_;refine yU 7 ?_;refine aZ rfl (fun a0=>?_) (fun a0=>aF (aV (bC (by first|rfl|decide)) a0));refine AZ 2 ?_;refine yU 1 ?_;refine aJ (EL (c:=45) rfl rfl rfl CY dE rfl) ?_;refine AZ 3 ?_;refine yU 10 ?_;refine aJ (zU rfl rfl QV (yZ.at 1 rfl) (KR _ _ dE)) ?_;refine dS 116 (.slice none 0 0) rfl (by first|rfl|exact zD dE) ?_;refine yU 6 ?_;refine aJ (zU rfl rfl a1E (yZ.at 1 rfl) (ZQ _ _)) ?_;refine yU 2 ?_;intro _ _;refine aJ (PI [45] rfl rfl rfl JV CY ZW (yZ.at 0 rfl) rfl) ?_;refine yU 1 ?_;intro _ _;refine aT rfl (CP (by':=15) (n:=0) (g:=some (ad,2,List.replicate 2 (str []))) (xs:=[]) [_,_,_,_] rfl rfl rfl rfl rfl FQ (.inr ⟨_,FQ⟩) kR EI YL rfl ⟨ae,rfl,rfl⟩ rfl (eG (yZ.at 0 rfl) rfl rfl rfl) oM ?_);intro _ ag;refine yU 1 ?_;refine aT rfl (IZ 3 rfl rfl rfl rfl (YA _ _) (a2w _ _) YX rfl (.inl rfl) (by rw[EU];decide) (yX.tr (aO (aO (aO bM)))) ?_);refine yU 5 ?_;refine aT rfl (NY rfl rfl rfl rfl CY JV ZW ?_);intro ao _ _ _ ah _;refine eH ah (fun _ a4 N=>?_);have W:=a4 _ _ W;refine yU 2 ?_;refine aT rfl (IZ 3 rfl rfl rfl rfl rfl rfl RH rfl (.inl rfl) (by rw[EU];decide) (yX.tb dE (aO (aO (aO bM)))) ?_);refine yU 8 ?_;refine dJ ?_;refine dI ?_;refine yU 7 ?_;refine aZ rfl (fun a1=>?_) (fun a1=>aF (aV (bC (by first|rfl|decide)) a1));refine AZ 0 ?_;refine yU 1 ?_;refine aJ (EL (c:=32) rfl rfl rfl CY dE rfl) ?_;refine AZ 1 ?_;refine yU 10 ?_;refine aJ (zU rfl rfl QV (yZ.at 3 rfl) (KR _ _ dE)) ?_;refine dS 116 (.slice none 0 0) rfl (by first|rfl|exact zD dE) ?_;refine yU 6 ?_;refine aJ (zU rfl rfl a1E (yZ.at 3 rfl) (ZQ _ _)) ?_;refine yU 2 ?_;intro _ _;refine aJ (PI [32] rfl rfl rfl JV CY ZW (yZ.at 0 rfl) rfl) ?_;refine yU 1 ?_;intro _ _;refine xap 15 [_,_,_,_,_,_] ag ?_;intro _ ai;refine yU 1 ?_;refine aT rfl (IZ 5 rfl rfl rfl rfl (YA _ _) (a2w _ _) YX rfl (.inl rfl) (by rw[EU];decide) (yX.tr (aO (aO (aO (aO (aO bM)))))) ?_);refine yU 5 ?_;refine aT rfl (NY rfl rfl rfl rfl CY JV ZW ?_);intro ap _ _ _ aj _;refine eH aj (fun _ Z a5=>?_);have W:=Z _ _ W;have N:=Z _ _ N;refine yU 2 ?_;refine aT rfl (IZ 5 rfl rfl rfl rfl rfl rfl RH rfl (.inl rfl) (by rw[EU];decide) (yX.tb dE (aO (aO (aO (aO (aO bM)))))) ?_);refine yU 8 ?_;refine dJ ?_;refine dI ?_;refine yU 7 ?_;refine aZ rfl (fun a2=>aF (aV (bC (by first|rfl|decide)) a2)) (fun a2=>?_);refine yU 12 ?_;obtain⟨gb,gc,aq,rfl,ar⟩:=ai.some dE;refine Ej.pull (aS (aS (aS (aS (aS (aS aY)))))) ?_;refine dZ ar (fun _ a3 al=>?_);refine Ej.pull (aS (aS (aS (aS (aS aY))))) ?_;refine dZ af (fun _ O am=>?_);refine Ej.keep (dH (dH (dH (dH (fA fB))))) ?_;refine zZ ?_;exact⟨an,rfl,BSG.two dE dE dE am ⟨ao,_,_,_,rfl,O _ _ (a3 _ _ N)⟩ ⟨ap,_,_,_,rfl,O _ _ (a3 _ _ a5)⟩ ⟨gb,gc,aq,rfl,O _ _ al⟩,rfl⟩
theorem b9g s:Rp.rep (Rp.two 32 [] 45 []) s=Ke.rep s:=by
 induction s with
 |nil=>rfl
 |cons c s N=>
  show Rp.one _ c++Rp.rep _ s=Ke.rep (c::s);rw[N];unfold Ke.rep Rp.one Rp.two;rw[List.filter_cons,Ke.c0t]
  by_cases h1:c=32
  ·simp[h1]
  by_cases h2:c=45
  ·simp[h2]
  simp[h1,h2]
theorem a9A O N s (W:s.length≤1000000000) I (Z:IG 9 I [[32],[],[45],[]] N):yY aA 198 [ptr O 0,str s] I (a2W O (.int .u32 0) (.int .i32 0) (.int .u32 0) .nilIface N) (fun e I' H'=>e= .returned (str (Ke.rep s))∧H'=[]):=by
 rw[←b9g];exact a4E b4w O N s W I Z
end Go.Proofs.YtekmeaoblpfnpaaGreatDoor
end
namespace Ke
open Go Go.Sx
def a0e:Nat→List (Nat×Bs)→ML Int
 |_,[]=>[]
 |i,(c,s)::r=>((c:Int),dK s,i)::a0e (i+1) r
def WM (l:List (Nat×Bs)):ML Int:=a0e 0 l
theorem cc(c d:Nat):((c:Int) == (d:Int))=(c == d):=by rw[Bool.eq_iff_iff,beq_iff_eq,beq_iff_eq];omega
theorem a3e:∀(l:List (Nat×Bs)) (i c:Nat),zV (a0e i l) (c:Int)=(l.lookup c).map dK
 |[],_,_=>rfl
 |(d,s)::r,i,c=>by
  simp only[a0e,zV,cc,dV]
  by_cases h:c=d
  ·subst h;simp
  have:(c == d)=false:=by simpa using h
  rw[this];simp only[dL,if_false];exact a3e r (i+1) c
theorem a7t:∀(l:List (Nat×Bs)) (i c:Nat) (s:Bs),c ∉ l.map (·.1)→AP (a0e i l) (c:Int) (dK s) (i+l.length)=a0e i (l++[(c,s)])
 |[],_,_,_,_=>rfl
 |(d,t)::r,i,c,s,h=>by
  simp only[aK,bU,not_or]at h;have:(c == d)=false:=by simpa using h.1
  simp only[a0e,AP,cc,this,bY,aU];simp only[dL,if_false];rw[←a7t r (i+1) c s h.2,show i+1+r.length=i+(r.length+1) by omega]
theorem a2T:∀{l:List (Nat×Bs)} {c:Nat},c ∉ l.map (·.1)→l.lookup c=none
 |[],_,_=>rfl
 |(d,t)::r,c,h=>by
  simp only[aK,bU,not_or]at h;have:(c == d)=false:=by simpa using h.1
  rw[dV,this];exact a2T h.2
theorem a8D{l}{c:Nat}{s}(h:c ∉ l.map (·.1)):AP (WM l) (c:Int) (dK s) l.length=WM (l++[(c,s)])∧DC (WM l) (c:Int) l.length=(l++[(c,s)]).length:=by
 refine⟨by have:=a7t l 0 c s h;rwa [Nat.zero_add]at this,?_⟩;unfold DC WM;rw[a3e,a2T h];simp
def a6H:List Bs:=rows.map fun p=>p.1++32::p.2
theorem a0g:∀(x y:List (Bs×Bs)),IL (x++y)=IL x++IL y
 |[],_=>rfl
 |(a,b)::r,y=>by simp only[bY,IL,a0g r y,dP]
theorem a9O{k a b}(h:rows[k]?=some (a,b)):IL (rows.take (k+1))=IL (rows.take k)++(runes b).map (·,a):=by
 obtain⟨N,O⟩:=bV.1 h;rw[List.take_succ_eq_append_getElem N,O,a0g];simp[IL]
theorem fresh{k c a b x y}(h:rows[k]?=some (a,b))(Z:runes b=x++c::y):c ∉ (IL (rows.take k)++x.map (·,a)).map (·.1):=by
 have N:=b3L;have e:rows=rows.take k++(a,b)::rows.drop (k+1):=by
  obtain⟨O,hg⟩:=bV.1 h;rw[←hg,←List.drop_eq_getElem_cons O,dF]
 rw[←b4I,e,a0g]at N;simp only[IL,Z,dA,aK]at N;have e2:(IL (rows.take k)).map (·.1)++((x.map (·,a)).map (·.1)++c::(y.map (·,a)).map (·.1)++(IL (rows.drop (k+1))).map (·.1))=((IL (rows.take k)).map (·.1)++(x.map (·,a)).map (·.1))++c::((y.map (·,a)).map (·.1)++(IL (rows.drop (k+1))).map (·.1)):=sI;rw[e2,List.nodup_append]at N;intro W;rw[dA]at W;exact N.2.2 c W c (.head _) rfl
theorem b2Y:∀p∈rows,p.1.all (fun c=>decide (c≠32))=true∧p.1.length≤10∧p.2.length≤100:=by decide +kernel
def cutAt (c:UInt8):Bs→Bs×Bs×Bool
 |[]=>([],[],false)
 |d::r=>if d=c then([],r,true)else(d::(cutAt c r).1,(cutAt c r).2)
theorem a5F:∀{a b:Bs} {c:UInt8},a.all (fun d=>decide (d≠c))=true→cutAt c (a++c::b)=(a,b,true)
 |[],b,c,_=>by simp[cutAt]
 |d::r,b,c,h=>by
  rw[List.all_cons,Bool.and_eq_true]at h;have h1:d≠c:=zA h.1;simp only[bY,cutAt,zD h1,a5F h.2]
theorem a1q:∀(c:UInt8) (s:Bs),(aQ s c= -1∧cutAt c s=(s,[],false))∨∃n:Nat,aQ s c=n∧n<s.length∧cutAt c s=(s.take n,s.drop (n+1),true)
 |c,[]=> .inl rT
 |c,d::r=>by
  unfold aQ
  by_cases hd:d=c
  ·subst hd;exact .inr ⟨0,sI,sI,by simp[cutAt]⟩
  have N:(d == c)=false:=by simpa using hd
  rw[N];rcases a1q c r with⟨h1,h2⟩|⟨n,O,g2,W⟩
  ·rw[h1];exact .inl ⟨sI,by simp[cutAt,hd,h2]⟩
  rw[O];have Z:((n:Int) == -1)=false:=by
   rw[beq_eq_false_iff_ne];omega
  rw[Z];exact .inr ⟨n+1,sI,by simp;omega,by simp[cutAt,hd,W]⟩
theorem a2J{b i x}(h:runes b=x++runes (b.drop i))(N:i<b.length):runes b=x++(aP ⟨b.toArray⟩ i).1::runes (b.drop (i+(aP ⟨b.toArray⟩ i).2)):=by
 rw[h,a0S N]
theorem a7A{b i x}(h:runes b=x++runes (b.drop i))(N:i<b.length):runes b=(x++[(aP ⟨b.toArray⟩ i).1])++runes (b.drop (i+(aP ⟨b.toArray⟩ i).2)):=by
 rw[a2J h N];simp
theorem b1o{b i x}(h:runes b=x++runes (b.drop i))(N:¬i<b.length):runes b=x:=by
 rw[h,a1U oM,cO]
end Ke
section
namespace Go.Proofs.YtekmeaoblpfnpaaGreatDoor
open Go Go.Sx
def Tab (I:Heap) (b:Nat):Prop:=I b=some (zQ (fun a:Int=>aG .i32 a) (Ke.WM bQ) 207)
theorem Tab.mono{I N b}(h:Tab I b)(O:Le I N):Tab N b:=O _ _ h
theorem TT{a b:Prop}[Decidable a][Decidable b](h:(decide a && decide b)=true):a∧b:=by simpa using h
theorem TW{a b:Prop}[Decidable a][Decidable b](h:(decide a && decide b)=false):¬(a∧b):=fun g=>by simp[g.1,g.2]at h
theorem GV c a b I:Pure aA 183 [.int .i32 c,.int .i32 a,.int .i32 b] I (.bool (decide (a≤c) && decide (c≤b))):=by
 refine zO Tryz.func183 fun w0 _=>?_;refine PY ?_ ?_<;>intro N
 ·refine zZ ?_;refine⟨?_,rfl,rfl⟩;have h:=N
  first|(simp_all;done)|(simp_all;omega)
 refine zZ ?_;refine⟨?_,rfl,rfl⟩;have h:=N
 first|(simp_all;done)|(simp_all;omega)
theorem OC(c b:Nat)(hc:c≤1114111) I (hT:Tab I b):Pure aA 129 [.int .i32 (c:Int),.map (some b)] I (str (aH c)):=by
 have hm:zV (Ke.WM bQ) (c:Int)=(bQ.lookup c).map str:=Ke.a3e _ 0 c;refine zO Tryz.func129 fun w0 _=>?_;refine BD (GV _ _ _ _) ?_;refine FB ?_ ?_<;>intro a4
 ·have b3:=TT a4;refine zZ ?_;refine⟨?_,rfl,rfl⟩;refine zC (fun l=>aB (str l)) ?_;unfold aH;rw[zF oM];exact aN (by unfold bZ;omega)
 have b4:=TW a4;refine BD (GV _ _ _ _) ?_;refine FB ?_ ?_<;>intro a5
 ·have b8:=TT a5;refine zZ ?_;refine⟨?_,rfl,rfl⟩;refine zC (fun l=>aB (str l)) ?_;unfold aH;rw[zF oM];exact aN (by unfold bZ;omega)
 have b9:=TW a5;refine BD (GV _ _ _ _) ?_;refine FB ?_ ?_<;>intro a6
 ·have ay:=TT a6;refine zZ ?_;refine⟨?_,rfl,rfl⟩;refine zC (fun l=>aB (str l)) ?_;unfold aH;rw[zD oM,zF oM];exact(zC (fun n:Int=>(dD n).data.toList) oM).trans (aN (c:=c+32) (by unfold bZ;omega))
 have az:=TW a6;refine AB ?_ ?_<;>intro a7 ad
 ·have b0:=EX a7;refine zZ ?_;refine⟨?_,rfl,rfl⟩;refine zC (fun l=>aB (str l)) ?_;unfold aH;rw[zD oM,zD oM,zF oM]
 have b1:=JE a7;refine BD (GV _ _ _ _) ?_;refine FB ?_ ?_<;>intro a8
 ·have b2:=TT a8;refine zZ ?_;refine⟨?_,rfl,rfl⟩;refine zC (fun l=>aB (str l)) ?_;unfold aH;rw[zD oM,zD oM,zD oM,zF oM]
 have ae:=TW a8;refine BD (GV _ _ _ _) ?_;refine FB ?_ ?_<;>intro a9
 ·have af:=TT a9;refine zZ ?_;refine⟨?_,rfl,rfl⟩;refine zC (fun l=>aB (str l)) ?_;unfold aH;rw[zD oM,zD oM,zD oM,zF oM]
 have ag:=TW a9;refine yU 8 ?_;refine aJ (a4p (kv:=fun a:Int=>aG .i32 a) (l:=Ke.WM bQ) (a:=(c:Int)) rfl rfl rfl rfl Tryz.underlying200 (CX.int b9S) YL (aX hT)) ?_;refine FB ?_ ?_<;>intro aa
 ·obtain⟨x,N⟩:=Option.isSome_iff_exists.1 (show(bQ.lookup c).isSome=true by have h:=aa;rw[hm]at h;simpa using h);refine Cj.ev 5 (str x) rfl (by rw[hm,N];rfl) ?_;refine zZ ?_;refine⟨?_,rfl,rfl⟩;refine zC (fun l=>aB (str l)) ?_;unfold aH;rw[zD oM,zD oM,zD oM,zD oM,N]
 have N:bQ.lookup c=none:=by have h:=aa;rw[hm]at h;simpa using h
 refine AB ?_ ?_<;>intro O ab
 ·have ah:=IC O;refine zZ ?_;refine⟨?_,rfl,rfl⟩;refine zC (fun l=>aB (str l)) ?_;unfold aH;rw[zD oM,zD oM,zD oM,zD oM,N];simp only;rw[zF oM];rfl
 have ai:=JY O;refine BD (GV _ _ _ _) ?_;refine FB ?_ ?_<;>intro W
 ·have aj:=TT W;refine zZ ?_;refine⟨?_,rfl,rfl⟩;refine zC (fun l=>aB (str l)) ?_;unfold aH;rw[zD oM,zD oM,zD oM,zD oM,N];simp only;rw[zD oM,zF oM];exact aN (by unfold bZ;omega)
 have al:=TW W;refine BD (GV _ _ _ _) ?_;refine FB ?_ ?_<;>intro Z
 ·have am:=TT Z;refine zZ ?_;refine⟨?_,rfl,rfl⟩;refine zC (fun l=>aB (str l)) ?_;unfold aH;rw[zD oM,zD oM,zD oM,zD oM,N];simp only;rw[zD oM,zF oM];exact aN (by unfold bZ;omega)
 have an:=TW Z;refine BD (GV _ _ _ _) ?_;refine PY ?_ ?_<;>intro a0
 ·have ao:=TT a0;refine AB ?_ ?_<;>intro a1 ac
  ·have ap:(c:Int)≠930:=by have h:=a1;simpa using h
   refine zZ ?_;refine⟨?_,rfl,rfl⟩;refine zC (fun l=>aB (str l)) ?_;unfold aH;rw[zD oM,zD oM,zD oM,zD oM,N];simp only;rw[zD oM,zD oM,zF oM];exact(zC (fun n:Int=>(dD n).data.toList) oM).trans (aN (c:=c+32) (by unfold bZ;omega))
  have aq:¬(c:Int)≠930:=by have h:=a1;simpa using h
  refine BD (GV _ _ _ _) ?_;refine FB ?_ ?_<;>intro a2
  ·have ar:=TT a2;refine zZ ?_;refine⟨?_,rfl,rfl⟩;refine zC (fun l=>aB (str l)) ?_;unfold aH;rw[zD oM,zD oM,zD oM,zD oM,N];simp only;rw[zD oM,zD oM,zF oM];exact(zC (fun n:Int=>(dD n).data.toList) oM).trans (aN (c:=c+32) (by unfold bZ;omega))
  have au:=TW a2;refine zZ ?_;refine⟨?_,rfl,rfl⟩;refine zC (fun l=>aB (str l)) ?_;unfold aH;rw[zD oM,zD oM,zD oM,zD oM,N];simp only;rw[zD oM,zD oM,zD oM]
 have av:=TW a0;refine BD (GV _ _ _ _) ?_;refine FB ?_ ?_<;>intro a3
 ·have aw:=TT a3;refine zZ ?_;refine⟨?_,rfl,rfl⟩;refine zC (fun l=>aB (str l)) ?_;unfold aH;rw[zD oM,zD oM,zD oM,zD oM,N];simp only;rw[zD oM,zD oM,zF oM];exact(zC (fun n:Int=>(dD n).data.toList) oM).trans (aN (c:=c+32) (by unfold bZ;omega))
 have ax:=TW a3;refine zZ ?_;refine⟨?_,rfl,rfl⟩;refine zC (fun l=>aB (str l)) ?_;unfold aH;rw[zD oM,zD oM,zD oM,zD oM,N];simp only;rw[zD oM,zD oM,zD oM]
end Go.Proofs.YtekmeaoblpfnpaaGreatDoor
end
section
namespace Go.Proofs.YtekmeaoblpfnpaaGreatDoor
open _root_.Go.Proofs.Tryz
open Go Go.Sx
theorem b3m s c I:Pure aA 298 [str s,str [c]] I (i64 (aQ s c)):=
 eY (bJ func298 dE rfl) fun w _=>by
  have h:=Tryz.stringslite_Index_one ⟨s.toArray⟩ c w;rw[LZ]at h;exact h
theorem b8i s c (hs:s.length≤1000000000) I:Pure aA 266 [str s,str [c]] I (.tuple #[str (Ke.cutAt c s).1,str (Ke.cutAt c s).2.1,.bool (Ke.cutAt c s).2.2]):=by
 refine zO func266 fun w0 _=>?_;refine BD (b3m s c _) ?_;refine AB ?_ ?_<;>intro N O
 ·obtain⟨n,W,_,Z⟩:=(Ke.a1q c s).resolve_left (fun h=>by have:=EX N;omega);refine Cj.ev 7 (i64 (n:Int)) rfl (zC i64 W) ?_;refine yU 1 ?_;refine dW [] [] 12 kR ?_;refine yU 2 ?_;refine cZ 2 rfl (ED (p:=0) (q:=n) rfl rfl CY rfl ⟨_,rfl⟩ oM oM) ?_;refine eU 15 (str (s.take n)) rfl (by rw[dG]) ?_;refine yU 4 ?_;refine cZ 7 rfl (OT rfl rfl rfl (MQ (by simp only[aU,List.length_nil];omega))) ?_;refine cZ 8 rfl (ED (p:=n+1) (q:=s.length) rfl rfl CY ⟨_,rfl⟩ rfl oM oM) ?_;refine eU 21 (str (s.drop (n+1))) rfl (by rw[List.take_length]) ?_;refine yU 7 ?_;refine Ej.b5Z rfl rfl rfl rfl rfl ?_;refine⟨?_,rfl,rfl⟩;rw[Z]
 have g:=(Ke.a1q c s).resolve_right (fun⟨n,h,_⟩=>by have:=JE N;omega);refine yU 11 ?_;refine Ej.b5Z rfl rfl rfl rfl rfl ?_;refine⟨?_,rfl,rfl⟩;rw[g.2];rfl
theorem b9V s c (N:s.length≤1000000000) I:Pure aA 233 [str s,str [c]] I (.tuple #[str (Ke.cutAt c s).1,str (Ke.cutAt c s).2.1,.bool (Ke.cutAt c s).2.2]):=by
 refine zO func233 fun w0 _=>?_;refine BD (b8i s c N _) ?_;refine yU 9 ?_;refine Ej.b5Z rfl rfl rfl rfl rfl ?_;exact rT
theorem a9r W rc I (a3:I W=some (zJ 9 (Ke.a6H.map str))):yY aA 182 [.slice (some ⟨W,0,none⟩) 31 rc] I []
 (fun e I' H'=>∃tb,e= .returned (.map (some tb))∧H'=[(tb,zQ (fun a:Int=>aG .i32 a) (Ke.WM bQ) 207)]):=by
 refine zO func182 fun w0 _=>?_;refine yU 7 ?_;refine aT rfl (AV rfl rfl rfl ?_);intro O _;refine yU 12 ?_;refine dM (ι:=Nat) (fun k=>k≤31) (fun k=>31-k) (fun k=>[(3,.map (some O)),(12,.slice (some ⟨W,0,none⟩) 31 rc),(13,.int .i64 ((31:Nat):Int)),(14,i64 (k:Int))]) (fun k=>_) (fun k=>[(O,zQ (fun a:Int=>aG .i32 a) (Ke.WM (dB (bW.take k))) (dB (bW.take k)).length)]) 0 (bF _) rT rfl rfl ?_;intro k _;refine AB ?_ ?_<;>intro a0 a2
 ·have a4:k<31:=by have:=EX a0;omega
  obtain⟨⟨a,b⟩,N⟩:∃p,bW[k]?=some p:=⟨_,CO (show k<bW.length from a4)⟩;obtain⟨ha,a5,a6⟩:=Ke.b2Y _ (CG N);have a7:(Ke.a6H.map str)[k]?=some (str (a++32::b)):=by simp[Ke.a6H,N]
  refine AZ k ?_;refine aJ (zU rfl rfl JK (aX a3) a7) ?_;refine BD (b9V (a++32::b) 32 (by dsimp only at a5 a6;simp;omega) _) ?_;refine dS 20 (.tuple #[str a,str b,.bool true]) rfl (by rw[Ke.a5F ha]) ?_;refine yU 12 ?_;refine aT rfl (a0w rfl rfl rfl rfl CY ?_);intro b3 _;refine yU 3 ?_;refine dM (ι:=Nat×List Nat) (fun j=>j.1≤b.length∧Ke.runes b=j.2++Ke.runes (b.drop j.1)) (fun j=>b.length-j.1) (fun j=>[(3,.map (some O)),(6,str a),(12,.slice (some ⟨W,0,none⟩) 31 rc),(13,.int .i64 ((31:Nat):Int)),(14,i64 (k:Int)),(25,ptr b3 0)]) (fun j=>_) (fun j=>[(b3,.stringIter ⟨b.toArray⟩ j.1),(O,zQ (fun a:Int=>aG .i32 a) (Ke.WM (dB (bW.take k)++j.2.map (·,a))) (dB (bW.take k)++j.2.map (·,a)).length)]) (0,[]) ⟨bF _,rfl⟩ rT rfl sI ?_;rintro⟨i,x⟩ ⟨hi,Z⟩;dsimp only at hi Z ⊢;rcases Nat.lt_or_ge i b.length with hp|hp
  ·have hw:=Ke.MN b hp;have a1:=Ke.fresh N (Ke.a2J Z hp);refine yU 2 ?_;refine aT rfl (a2v 0 rfl rfl rfl rfl rfl (by rw[size_mk];omega) bM ?_);refine yU 18 ?_;refine aT rfl (DK (kv:=fun a:Int=>aG .i32 a) (a:=((aP ⟨b.toArray⟩ i).1:Int)) 1 (.inr rfl) rfl rfl rfl rfl rfl underlying200 (CX.int b9S) rfl (aO bM) ?_);rw[(Ke.a8D (s:=a) a1).1,(Ke.a8D (s:=a) a1).2];refine yU 2 ?_;refine bG (i+(aP ⟨b.toArray⟩ i).2,x++[(aP ⟨b.toArray⟩ i).1]) ⟨hw.2,Ke.a7A Z hp⟩ dO rT rfl (by simp only[dA,aK,List.map_nil,dP])

  refine yU 2 ?_;refine aT rfl (VH 0 rfl rfl rfl rfl rfl (by rw[size_mk];omega) ?_);refine yU 15 ?_;refine Ej.keep (dH (fA fB)) ?_;refine bG (k+1) oM oM rT rfl (by rw[Ke.a9O N,Ke.b1o Z oM])
 refine yU 12 ?_;obtain rfl:k=31:=oM;refine zZ ?_;have he:dB (bW.take 31)=bQ:=by rw[aI dE];exact Ke.b4I
 refine⟨O,rfl,?_⟩;rw[he];rfl
theorem b7k:zJ 9 (Ke.a6H.map str)=zJ 9 [str [97,32,195,160,195,161,195,162,195,163,195,164,195,165,196,129,196,131,196,133,195,128,195,129,195,130,195,131,195,132,195,133,196,128,196,130,196,132],str [99,32,195,167,196,135,196,137,196,139,196,141,195,135,196,134,196,136,196,138,196,140],str [100,32,196,143,196,145,195,176,196,142,196,144,195,144],str [101,32,195,168,195,169,195,170,195,171,196,147,196,149,196,151,196,153,196,155,195,136,195,137,195,138,195,139,196,146,196,148,196,150,196,152,196,154],str [103,32,196,157,196,159,196,161,196,163,196,156,196,158,196,160,196,162],str [104,32,196,165,196,167,196,164,196,166],str [105,32,195,172,195,173,195,174,195,175,196,169,196,171,196,173,196,175,196,177,195,140,195,141,195,142,195,143,196,168,196,170,196,172,196,174,196,176],str [106,32,196,181,196,180],str [107,32,196,183,196,182],str [108,32,196,186,196,188,196,190,197,130,196,185,196,187,196,189,197,129],str [110,32,195,177,197,132,197,134,197,136,195,145,197,131,197,133,197,135],str [111,32,195,178,195,179,195,180,195,181,195,182,195,184,197,141,197,143,197,145,198,161,195,146,195,147,195,148,195,149,195,150,195,152,197,140,197,142,197,144,198,160],str [114,32,197,149,197,151,197,153,197,148,197,150,197,152],str [115,32,197,155,197,157,197,159,197,161,197,154,197,156,197,158,197,160],str [116,32,197,163,197,165,197,167,197,162,197,164,197,166],str [117,32,195,185,195,186,195,187,195,188,197,169,197,171,197,173,197,175,197,177,197,179,198,176,195,153,195,154,195,155,195,156,197,168,197,170,197,172,197,174,197,176,197,178,198,175],str [119,32,197,181,197,180],str [121,32,195,189,195,191,197,183,195,157,197,184,197,182],str [122,32,197,186,197,188,197,190,197,185,197,187,197,189],str [97,101,32,195,166,195,134],str [111,101,32,197,147,197,146],str [115,115,32,195,159],str [116,104,32,195,190,195,158],str [206,177,32,206,172,206,134],str [206,181,32,206,173,206,136],str [206,183,32,206,174,206,137],str [206,185,32,206,175,207,138,206,144,206,138,206,170],str [206,191,32,207,140,206,140],str [207,133,32,207,141,207,139,206,176,206,142,206,171],str [207,137,32,207,142,206,143],str [208,181,32,209,145,208,129]]:=kR
theorem b1x I:yY aA 128 [] I [] (fun e I' H'=>∃tb,e= .returned (.map (some tb))∧H'=[(tb,zQ (fun a:Int=>aG .i32 a) (Ke.WM bQ) 207)]):=by
 refine yY.ob func128 ?_;intro w0 _;refine Cj.sr (aJ GH ?_);refine J.UQ (aT rfl (zY rfl rfl rfl FQ EI YL rfl rfl rfl rfl (zM.one rfl (zM.one rfl (zM.one rfl (zM.one rfl (zM.one rfl (zM.one rfl (zM.one rfl (zM.one rfl (zM.one rfl (zM.one rfl (zM.one rfl (zM.one rfl (zM.one rfl (zM.one rfl (zM.one rfl (zM.one rfl (zM.one rfl (zM.one rfl (zM.one rfl (zM.one rfl (zM.one rfl (zM.one rfl (zM.one rfl (zM.one rfl (zM.one rfl (zM.one rfl (zM.one rfl (zM.one rfl (zM.one rfl (zM.one rfl (zM.one rfl zM.none))))))))))))))))))))))))))))))) ?_));intro b1 W;refine eH W (fun _ _ N=>?_);refine aT rfl (zN (H1:=[]) rfl rfl rfl rfl rfl (a9r b1 _ _ (by rw[b7k];exact N)) ?_ (fun _ _ _ _ ⟨_,h,_⟩=>by cases h) (fun _ _ ⟨_,h,_⟩=>by cases h));intro _ _ _ O Z;have N:=O _ _ N;obtain⟨tb,h,rfl⟩:=Z;cases h;refine aJ GH ?_;refine J.ns (Cj.ret ?_);refine Ej.a0t rfl rfl rfl ?_;exact⟨tb,rfl,rfl⟩
