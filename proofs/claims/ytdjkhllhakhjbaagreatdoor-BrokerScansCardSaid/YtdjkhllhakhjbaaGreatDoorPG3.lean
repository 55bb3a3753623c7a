/-
  Own texts on the laws of the seat, joined: the logic, and contracts of functions. Conditions: none.
-/
import Derived.Test.YtdjkhllhakhjbaaGreatDoorNmG
import Derived.Test.YtdjkhllhakhjbaaGreatDoorPG2
import Derived.Shelf.Strings.Builder1
import Derived.Shelf.Strings.Builder2
import Derived.Shelf.Strings.OnBuilder
import Derived.Shelf.Strings.Trim
import Derived.Shelf.Small.Utf8
import Derived.Shelf.Small.Bits
import Derived.Shelf.Small.Strs
import Derived.Shelf.Small.Wraps
import Derived.Shelf.Strings.BuilderF
import Derived.Shelf.Strings.BuilderK
import Derived.Shelf.Strings.BuilderRune
import Derived.Shelf.Utf8.AppendRune
import Derived.Shelf.Utf8.AppendRunePlain
import Derived.Shelf.Utf8.RuneCount
import Derived.Shelf.Strings.Builder2Cap
import Derived.Shelf.Strconv.Itoa0
import Derived.Shelf.Strings.Search1
import Derived.Shelf.Strings.Search2
import Derived.Shelf.Strings.Search3
import Derived.Shelf.Strings.Cut
import Derived.Shelf.Strings.Count
import Derived.Shelf.LaysM
import Derived.Shelf.Strings.Shaped
import Derived.Shelf.Sort.Plain
import Derived.Shelf.GgClosure.StringsIndexFunc
import Derived.Ground.GgwProg
import Derived.Shelf.GgClosure.StringsIndexFuncTop
import Derived.Shelf.Strings.Prefix
import Derived.Shelf.Strings.Split
import Derived.Shelf.Strings.Fields
import Derived.Shelf.Strings.SplitShaped
import Derived.Shelf.Unicode.Latin
import Derived.Shelf.Unicode.Decode
import Derived.Shelf.Strings.Runes
import Derived.Shelf.Strings.RuneCount
import Derived.Shelf.Strings.IndexAny
import Derived.Shelf.Strings.AsciiSet
import Derived.Shelf.Strings.IndexAnyAll
import Derived.Shelf.Unicode.DecodeSlow
import Derived.Shelf.Unicode.DecodeAny
import Derived.Shelf.Unicode.Is16White
import Derived.Shelf.Unicode.IsSpaceAny
import Derived.Shelf.Unicode.DecodeLast
import Derived.Shelf.Unicode.Is16WhiteD
import Derived.Shelf.Unicode.IsSpaceAnyD
import Derived.Shelf.Strings.FieldsAny
import Derived.Shelf.Strings.FieldsFuncAny
import Derived.Shelf.Unicode.CaseLookup
import Derived.Shelf.Unicode.CaseConvert
import Derived.Shelf.Unicode.CaseTo
import Derived.Shelf.Unicode.CaseLaid
import Derived.Shelf.Strings.MapAny
import Derived.Shelf.Strings.CaseAny
import Derived.Shelf.Unicode.Is16Any
import Derived.Shelf.Unicode.Is32Any
import Derived.Shelf.Unicode.ExclAny
import Derived.Shelf.Strings.FuncGrows
import Derived.Shelf.Strings.FieldsFuncGrows
import Derived.Shelf.Strings.BuilderCap
import Derived.Shelf.Strings.MapGrows
import Derived.Shelf.Slices.Turned
import Derived.Shelf.Slices.Equal
import Derived.Ground.Names2Prog
import Derived.Shelf.Slices.Clone
import Derived.Shelf.Slices.CompactI
import Derived.Shelf.Slices.CompactS
import Derived.Shelf.Slices.SearchI
import Derived.Shelf.Slices.Cells
import Derived.Shelf.Slices.In.SortNone
import Derived.Shelf.Slices.Empties2
import Derived.Ground.SlgnProg
import Derived.Shelf.SlicesE.Clone
import Derived.Sort.Grow
import Derived.Sort.EncStr
set_option linter.all false
set_option maxRecDepth 100000
set_option maxHeartbeats 40000000
open Go.Proofs.Tryz renaming prog -> aA
open Go.Sx.J renaming z -> aB
open Go.Shelf renaming Ren -> aC
open Go.Sx.JA renaming tk -> aF
open Go.Sort renaming ahead -> aG
open Go.Value renaming int -> aH,bool -> aW,oneCell' -> dL,string -> dQ
open List renaming mem_singleton -> aI,take_of_length_le -> aJ,getElem?_eq_getElem -> aO,count_le_length -> aV,length_append -> aY,map_cons -> bC,sum_cons -> bD,getElem?_append_right -> bF,length_cons -> bH,length_map -> bP,drop_zero -> bT,getElem?_drop -> bY,flatMap_cons -> bZ,append_assoc -> cO,countP_cons -> dB,length_take -> dD,append_nil -> dG,replicate -> dK,take_left -> dM,drop_drop -> dN,mem_cons -> dP
open Go.Lib renaming goFieldsP -> aK,fieldsD -> aS,compact -> aT,indexByte -> aZ
open Go.Sx.Ej renaming seq -> aN,FM -> aQ,round -> bK,IB -> dA,JE -> dH,JM -> dI
open Go.Sx.Cj renaming region -> aP,seq -> bI,block -> bJ,skip -> bU
open Go.Sx.yR renaming PL -> aU
open Nat renaming zero_le -> aX,zero_add -> bW,mul_one -> cZ,min_eq_left -> dJ
open Array renaming getElem?_append_left -> bG,getElem?_modify -> bQ
open Option renaming map_some -> bM
open Go.Proofs.Builder renaming Extra -> bV
open ByteArray renaming empty -> dF
open Go.Proofs.SlLaysE0 renaming n41 -> dR
open Go.Proofs.Lays renaming n158 -> dS,n156 -> dU,n161 -> dV,n160 -> dW,n119 -> dX,n106 -> dY,n137 -> dZ,n122 -> eF,n219 -> eG,n138 -> eH,n189 -> eP,n190 -> eU,n157 -> eX,n152 -> eY,n151 -> fA,n226 -> fB,n153 -> fC,n260 -> fD,n229 -> fE,n230 -> fF,n109 -> fG,n110 -> fH,n194 -> fK,n99 -> fM
open Go.Proofs.Lays2 renaming n20 -> fJ
namespace Go.Proofs
open _root_.Go.Proofs.Tryz
open Go.Shelf
def Tryz.lays158_ren:aC:=⟨fun|158=>118|165=>168|166=>131|167=>169|169=>133|230=>170|203=>171|240=>178|241=>225|197=>226|118=>227|168=>228|270=>229|262=>230|276=>239|277=>270|260=>271|242=>272|313=>273|278=>297|274=>298|275=>299|n=>n,fun|9=>9|4=>4|3=>3|5=>5|72=>224|0=>0|76=>228|75=>227|107=>266|70=>222|20=>20|37=>215|127=>285|21=>21|105=>321|164=>330|162=>354|203=>352|119=>363|46=>108|139=>379|138=>378|51=>149|160=>380|208=>403|206=>401|80=>231|n=>n,fun|13=>1|3=>2|4=>3|n=>n⟩
theorem Tryz.lays158:dS aA Tryz.lays158_ren:={
 mixed:=kR
 f118:=func227.trans (zD some kR)
 f158:=func118.trans (zD some kR)
 f165:=func168.trans (zD some kR)
 f166:=func131.trans (zD some kR)
 f167:=func169.trans (zD some kR)
 f168:=func228.trans (zD some kR)
 f169:=func133.trans (zD some kR)
 f197:=func226.trans (zD some kR)
 f203:=func171.trans (zD some kR)
 f230:=func170.trans (zD some kR)
 f240:=func178.trans (zD some kR)
 f241:=func225.trans (zD some kR)
 f242:=func272.trans (zD some kR)
 f260:=func271.trans (zD some kR)
 f262:=func230.trans (zD some kR)
 f270:=func229.trans (zD some kR)
 f274:=func298.trans (zD some kR)
 f275:=func299.trans (zD some kR)
 f276:=func239.trans (zD some kR)
 f277:=func270.trans (zD some kR)
 f278:=func297.trans (zD some kR)
 f313:=func273.trans (zD some kR)
 t0:=underlying0
 a0:=isAgg0
 z0:=sizeOf0
 v0:=zeroValue0
 t3:=underlying3
 a3:=isAgg3
 z3:=sizeOf3
 v3:=zeroValue3
 t4:=underlying4
 a4:=isAgg4
 z4:=sizeOf4
 v4:=zeroValue4
 t5:=underlying5
 a5:=isAgg5
 z5:=sizeOf5
 v5:=zeroValue5
 t9:=underlying9
 a9:=isAgg9
 z9:=sizeOf9
 v9:=zeroValue9
 t20:=underlying20
 a20:=isAgg20
 z20:=sizeOf20
 v20:=zeroValue20
 t21:=underlying21
 a21:=isAgg21
 z21:=sizeOf21
 v21:=zeroValue21
 t37:=underlying215
 a37:=isAgg215
 z37:=sizeOf215
 v37:=zeroValue215
 t46:=underlying108
 a46:=isAgg108
 z46:=sizeOf108
 v46:=zeroValue108
 t51:=underlying149
 a51:=isAgg149
 z51:=sizeOf149
 v51:=zeroValue149
 t70:=underlying222
 a70:=isAgg222
 z70:=sizeOf222
 v70:=zeroValue222
 t72:=underlying224
 a72:=isAgg224
 z72:=sizeOf224
 v72:=zeroValue224
 t75:=underlying227
 a75:=isAgg227
 z75:=sizeOf227
 v75:=zeroValue227
 t76:=underlying228
 a76:=isAgg228
 z76:=sizeOf228
 v76:=zeroValue228
 t105:=underlying321
 a105:=isAgg321
 z105:=sizeOf321
 v105:=zeroValue321
 t107:=underlying266
 a107:=isAgg266
 z107:=sizeOf266
 v107:=zeroValue266
 t119:=underlying363
 a119:=isAgg363
 z119:=sizeOf363
 t127:=underlying285
 a127:=isAgg285
 z127:=sizeOf285
 v127:=zeroValue285
 t138:=underlying378
 a138:=isAgg378
 z138:=sizeOf378
 v138:=zeroValue378
 t139:=underlying379
 a139:=isAgg379
 z139:=sizeOf379
 v139:=zeroValue379
 t160:=underlying380
 a160:=isAgg380
 z160:=sizeOf380
 v160:=zeroValue380
 t162:=underlying354
 a162:=isAgg354
 z162:=sizeOf354
 v162:=zeroValue354
 t164:=underlying330
 a164:=isAgg330
 z164:=sizeOf330
 v164:=zeroValue330
 t203:=underlying352
 a203:=isAgg352
 z203:=sizeOf352
 v203:=zeroValue352
 t206:=underlying401
 a206:=isAgg401
 z206:=sizeOf401
 v206:=zeroValue401
 t208:=underlying403
 a208:=isAgg403
 z208:=sizeOf403
 v208:=zeroValue403
 g3:=kR
 g4:=kR
 g13:=by kernel_rfl }
theorem Tryz.Builder_Extra_158:bV aA Tryz.lays158_ren:={
 sizeBuilder:=kR
 liesBuilder:=kR
 t5:=underlying5
 a5:=isAgg5
 z5:=sizeOf5
 v5:=zeroValue5
 infoByte:=kR
 cellsByte:=kR
 sizeByte:=kR
 neB5:=by decide }
open Go.RowKit in
theorem Tryz.strings_ToUpper_ascii s w (hs:s.size≤140737488355328)(h:∀(j:Nat) (b:UInt8),s.data.toList[j]?=some b→b.toNat<128):
 Calls aA 118 #[.string s] w fun e w'=>e= .returned (.string ⟨(Lib.toUpperA s.data.toList).toArray⟩)∧Below w.heap.size w w':=Any.strings_ToUpper_ascii Tryz.lays158 Tryz.Builder_Extra_158 s w hs h
def Tryz.lays156_ren:aC:=⟨fun|156=>127|165=>168|166=>131|169=>133|240=>178|241=>225|276=>239|277=>270|n=>n,fun|31=>123|9=>9|3=>3|4=>4|0=>0|20=>20|72=>224|76=>228|70=>222|37=>215|75=>227|127=>285|164=>330|5=>5|80=>231|n=>n,fun|n=>n⟩
theorem Tryz.lays156:dU aA Tryz.lays156_ren:={
 mixed:=kR
 f156:=func127.trans (zD some kR)
 f165:=func168.trans (zD some kR)
 f166:=func131.trans (zD some kR)
 f169:=func133.trans (zD some kR)
 f240:=func178.trans (zD some kR)
 f241:=func225.trans (zD some kR)
 f276:=func239.trans (zD some kR)
 f277:=func270.trans (zD some kR)
 t0:=underlying0
 a0:=isAgg0
 z0:=sizeOf0
 v0:=zeroValue0
 t3:=underlying3
 a3:=isAgg3
 z3:=sizeOf3
 v3:=zeroValue3
 t4:=underlying4
 a4:=isAgg4
 z4:=sizeOf4
 v4:=zeroValue4
 t9:=underlying9
 a9:=isAgg9
 z9:=sizeOf9
 v9:=zeroValue9
 t20:=underlying20
 a20:=isAgg20
 z20:=sizeOf20
 v20:=zeroValue20
 t31:=underlying123
 a31:=isAgg123
 z31:=sizeOf123
 v31:=zeroValue123
 t37:=underlying215
 a37:=isAgg215
 z37:=sizeOf215
 v37:=zeroValue215
 t70:=underlying222
 a70:=isAgg222
 z70:=sizeOf222
 v70:=zeroValue222
 t72:=underlying224
 a72:=isAgg224
 z72:=sizeOf224
 v72:=zeroValue224
 t75:=underlying227
 a75:=isAgg227
 z75:=sizeOf227
 v75:=zeroValue227
 t76:=underlying228
 a76:=isAgg228
 z76:=sizeOf228
 v76:=zeroValue228
 t127:=underlying285
 a127:=isAgg285
 z127:=sizeOf285
 v127:=zeroValue285
 t164:=underlying330
 a164:=isAgg330
 z164:=sizeOf330
 v164:=zeroValue330 }
theorem Tryz.Builder_Extra_156:bV aA Tryz.lays156_ren:={
 sizeBuilder:=kR
 liesBuilder:=kR
 t5:=underlying5
 a5:=isAgg5
 z5:=sizeOf5
 v5:=zeroValue5
 infoByte:=kR
 cellsByte:=kR
 sizeByte:=kR
 neB5:=by decide }
open Go.RowKit in
theorem Tryz.strings_Join_none a c h w:
 Calls aA 127 #[.slice a 0 c,.string h] w fun e w'=>e= .returned (.string ⟨#[]⟩)∧w'=w:=Any.strings_Join_none Tryz.lays156 Tryz.Builder_Extra_156 a c h w
open Go.RowKit in
theorem Tryz.strings_Join bk o c (xs:List ByteArray) h w (A:∀(j:Nat) x,xs[j]?=some x→w.cell? ⟨bk,o+j,none⟩=some (.string x))(O:bk<w.heap.size)(Q:xs.length≤140737488355328)(G:xs.length≤c)(N:(Lib.join (xs.map (·.data.toList)) h.data.toList).length≤140737488355328):
 Calls aA 127 #[.slice (some ⟨bk,o,none⟩) xs.length c,.string h] w fun e w'=>e= .returned (.string ⟨(Lib.join (xs.map (·.data.toList)) h.data.toList).toArray⟩)∧Below w.heap.size w w':=Any.strings_Join Tryz.lays156 Tryz.Builder_Extra_156 bk o c xs h w A O Q G N
def Tryz.lays161_ren:aC:=⟨fun|161=>136|231=>188|227=>189|233=>190|235=>191|228=>193|197=>226|151=>117|260=>271|152=>167|137=>126|119=>222|224=>223|225=>224|217=>175|266=>237|n=>n,fun|9=>9|4=>4|3=>3|5=>5|117=>294|116=>293|0=>0|124=>297|105=>321|21=>21|119=>363|46=>108|139=>379|138=>378|n=>n,fun|3=>2|4=>3|n=>n⟩
theorem Tryz.lays161:dV aA Tryz.lays161_ren:={
 mixed:=kR
 f119:=func222.trans (zD some kR)
 f137:=func126.trans (zD some kR)
 f151:=func117.trans (zD some kR)
 f152:=func167.trans (zD some kR)
 f161:=func136.trans (zD some kR)
 f197:=func226.trans (zD some kR)
 f217:=func175.trans (zD some kR)
 f224:=func223.trans (zD some kR)
 f225:=func224.trans (zD some kR)
 f227:=func189.trans (zD some kR)
 f228:=func193.trans (zD some kR)
 f231:=func188.trans (zD some kR)
 f233:=func190.trans (zD some kR)
 f235:=func191.trans (zD some kR)
 f260:=func271.trans (zD some kR)
 f266:=func237.trans (zD some kR)
 t0:=underlying0
 a0:=isAgg0
 z0:=sizeOf0
 v0:=zeroValue0
 t3:=underlying3
 a3:=isAgg3
 z3:=sizeOf3
 v3:=zeroValue3
 t4:=underlying4
 a4:=isAgg4
 z4:=sizeOf4
 v4:=zeroValue4
 t5:=underlying5
 a5:=isAgg5
 z5:=sizeOf5
 v5:=zeroValue5
 t9:=underlying9
 a9:=isAgg9
 z9:=sizeOf9
 v9:=zeroValue9
 t21:=underlying21
 a21:=isAgg21
 z21:=sizeOf21
 v21:=zeroValue21
 t46:=underlying108
 a46:=isAgg108
 z46:=sizeOf108
 v46:=zeroValue108
 t105:=underlying321
 a105:=isAgg321
 z105:=sizeOf321
 v105:=zeroValue321
 t116:=underlying293
 a116:=isAgg293
 z116:=sizeOf293
 t117:=underlying294
 a117:=isAgg294
 z117:=sizeOf294
 v117:=zeroValue294
 t119:=underlying363
 a119:=isAgg363
 z119:=sizeOf363
 t124:=underlying297
 a124:=isAgg297
 z124:=sizeOf297
 v124:=zeroValue297
 t138:=underlying378
 a138:=isAgg378
 z138:=sizeOf378
 v138:=zeroValue378
 t139:=underlying379
 a139:=isAgg379
 z139:=sizeOf379
 v139:=zeroValue379
 g3:=kR
 g4:=by kernel_rfl }
open Go.RowKit in
theorem Tryz.strings_TrimLeft_one s c (h:c.toNat<128) w:
 Calls aA 136 #[.string s,.string ⟨#[c]⟩] w fun e w'=>e= .returned (.string ⟨(Lib.trimLeftB s.data.toList c).toArray⟩)∧w'=w:=Any.strings_TrimLeft_one Tryz.lays161 s c h w
def Tryz.lays160_ren:aC:=⟨fun|160=>174|232=>234|231=>188|227=>189|234=>235|233=>190|236=>236|235=>191|228=>193|271=>280|151=>117|197=>226|120=>306|152=>167|260=>271|137=>126|119=>222|224=>223|225=>224|217=>175|266=>237|n=>n,fun|9=>9|4=>4|3=>3|5=>5|117=>294|116=>293|0=>0|124=>297|21=>21|105=>321|46=>108|119=>363|139=>379|138=>378|n=>n,fun|3=>2|4=>3|n=>n⟩
theorem Tryz.lays160:dW aA Tryz.lays160_ren:={
 mixed:=kR
 f119:=func222.trans (zD some kR)
 f120:=func306.trans (zD some kR)
 f137:=func126.trans (zD some kR)
 f151:=func117.trans (zD some kR)
 f152:=func167.trans (zD some kR)
 f160:=func174.trans (zD some kR)
 f197:=func226.trans (zD some kR)
 f217:=func175.trans (zD some kR)
 f224:=func223.trans (zD some kR)
 f225:=func224.trans (zD some kR)
 f227:=func189.trans (zD some kR)
 f228:=func193.trans (zD some kR)
 f231:=func188.trans (zD some kR)
 f232:=func234.trans (zD some kR)
 f233:=func190.trans (zD some kR)
 f234:=func235.trans (zD some kR)
 f235:=func191.trans (zD some kR)
 f236:=func236.trans (zD some kR)
 f260:=func271.trans (zD some kR)
 f266:=func237.trans (zD some kR)
 f271:=func280.trans (zD some kR)
 t0:=underlying0
 a0:=isAgg0
 z0:=sizeOf0
 v0:=zeroValue0
 t3:=underlying3
 a3:=isAgg3
 z3:=sizeOf3
 v3:=zeroValue3
 t4:=underlying4
 a4:=isAgg4
 z4:=sizeOf4
 v4:=zeroValue4
 t5:=underlying5
 a5:=isAgg5
 z5:=sizeOf5
 v5:=zeroValue5
 t9:=underlying9
 a9:=isAgg9
 z9:=sizeOf9
 v9:=zeroValue9
 t21:=underlying21
 a21:=isAgg21
 z21:=sizeOf21
 v21:=zeroValue21
 t46:=underlying108
 a46:=isAgg108
 z46:=sizeOf108
 v46:=zeroValue108
 t105:=underlying321
 a105:=isAgg321
 z105:=sizeOf321
 v105:=zeroValue321
 t116:=underlying293
 a116:=isAgg293
 z116:=sizeOf293
 t117:=underlying294
 a117:=isAgg294
 z117:=sizeOf294
 v117:=zeroValue294
 t119:=underlying363
 a119:=isAgg363
 z119:=sizeOf363
 t124:=underlying297
 a124:=isAgg297
 z124:=sizeOf297
 v124:=zeroValue297
 t138:=underlying378
 a138:=isAgg378
 z138:=sizeOf378
 v138:=zeroValue378
 t139:=underlying379
 a139:=isAgg379
 z139:=sizeOf379
 v139:=zeroValue379
 g3:=kR
 g4:=by kernel_rfl }
def Tryz.lays119_ren:aC:=⟨fun|119=>222|n=>n,fun|21=>21|4=>4|n=>n,fun|n=>n⟩
theorem Tryz.lays119:dX aA Tryz.lays119_ren:={
 mixed:=kR
 f119:=func222.trans (zD some kR)
 t4:=underlying4
 a4:=isAgg4
 z4:=sizeOf4
 v4:=zeroValue4
 t21:=underlying21
 a21:=isAgg21
 z21:=sizeOf21
 v21:=zeroValue21 }
theorem Tryz.utf8_ValidRune r w:
 Calls aA 222 #[.int .i32 r] w fun e w'=>e= .returned (.bool (Lib.validRune r))∧w'=w:=Any.utf8_ValidRune Tryz.lays119 r w
def Tryz.lays106_ren:aC:=⟨fun|106=>26|213=>45|265=>65|n=>n,fun|9=>9|3=>3|n=>n,fun|n=>n⟩
theorem Tryz.lays106:dY aA Tryz.lays106_ren:={
 mixed:=kR
 f106:=func26.trans (zD some kR)
 f213:=func45.trans (zD some kR)
 f265:=func65.trans (zD some kR)
 t3:=underlying3
 a3:=isAgg3
 z3:=sizeOf3
 v3:=zeroValue3
 t9:=underlying9
 a9:=isAgg9
 z9:=sizeOf9
 v9:=zeroValue9 }
open Go.RowKit in
theorem Tryz.strings_Compare a b w:
 Calls aA 26 #[.string a,.string b] w fun e w'=>e= .returned (.int .i64 (Lib.compareBytes a.data.toList b.data.toList))∧w'=w:=Any.strings_Compare Tryz.lays106 a b w
def Tryz.lays137_ren:aC:=⟨fun|137=>126|217=>175|266=>237|n=>n,fun|9=>9|5=>5|3=>3|n=>n,fun|n=>n⟩
theorem Tryz.lays137:dZ aA Tryz.lays137_ren:={
 mixed:=kR
 f137:=func126.trans (zD some kR)
 f217:=func175.trans (zD some kR)
 f266:=func237.trans (zD some kR)
 t3:=underlying3
 a3:=isAgg3
 z3:=sizeOf3
 v3:=zeroValue3
 t5:=underlying5
 a5:=isAgg5
 z5:=sizeOf5
 v5:=zeroValue5
 t9:=underlying9
 a9:=isAgg9
 z9:=sizeOf9
 v9:=zeroValue9 }
open Go.RowKit in
theorem Tryz.strings_IndexByte s c w:
 Calls aA 126 #[.string s,.int .u8 c] w fun e w'=>e= .returned (.int .i64 (aZ s.data.toList c.toNat.toUInt8))∧w'=w:=Any.strings_IndexByte Tryz.lays137 s c w
def Tryz.lays122_ren:aC:=⟨fun|122=>43|215=>64|n=>n,fun|3=>3|4=>4|n=>n,fun|n=>n⟩
theorem Tryz.lays122:eF aA Tryz.lays122_ren:={
 mixed:=kR
 f122:=func43.trans (zD some kR)
 f215:=func64.trans (zD some kR)
 t3:=underlying3
 a3:=isAgg3
 z3:=sizeOf3
 v3:=zeroValue3
 t4:=underlying4
 a4:=isAgg4
 z4:=sizeOf4
 v4:=zeroValue4 }
open Go.RowKit in
theorem Tryz.cmp_Compare_int x y w:
 Calls aA 43 #[.int .i64 x,.int .i64 y] w fun e w'=>e= .returned (.int .i64 (Lib.compareInt x y))∧w'=w:=Any.cmp_Compare_int Tryz.lays122 x y w
def Tryz.lays219_ren:aC:=⟨fun|219=>307|217=>175|225=>224|224=>223|267=>323|266=>237|314=>333|n=>n,fun|9=>9|3=>3|4=>4|5=>5|46=>108|146=>417|51=>149|n=>n,fun|1=>0|n=>n⟩
theorem Tryz.lays219:eG aA Tryz.lays219_ren:={
 mixed:=kR
 f217:=func175.trans (zD some kR)
 f219:=func307.trans (zD some kR)
 f224:=func223.trans (zD some kR)
 f225:=func224.trans (zD some kR)
 f266:=func237.trans (zD some kR)
 f267:=func323.trans (zD some kR)
 f314:=func333.trans (zD some kR)
 t3:=underlying3
 a3:=isAgg3
 z3:=sizeOf3
 v3:=zeroValue3
 t4:=underlying4
 a4:=isAgg4
 z4:=sizeOf4
 v4:=zeroValue4
 t5:=underlying5
 a5:=isAgg5
 z5:=sizeOf5
 v5:=zeroValue5
 t9:=underlying9
 a9:=isAgg9
 z9:=sizeOf9
 v9:=zeroValue9
 t46:=underlying108
 a46:=isAgg108
 z46:=sizeOf108
 v46:=zeroValue108
 t51:=underlying149
 a51:=isAgg149
 z51:=sizeOf149
 v51:=zeroValue149
 t146:=underlying417
 a146:=isAgg417
 z146:=sizeOf417
 v146:=zeroValue417
 g1:=by kernel_rfl }
open Go.RowKit Go.Lib in
theorem Tryz.stringslite_Index_one s c w:
 Calls aA 307 #[.string s,.string ⟨#[c]⟩] w fun e w'=>e= .returned (.int .i64 (aZ s.data.toList c))∧w'=w:=Any.stringslite_Index_one Tryz.lays219 s c w
def Tryz.lays138_ren:aC:=⟨fun|138=>375|195=>376|218=>377|143=>378|219=>307|217=>175|225=>224|224=>223|267=>323|266=>237|314=>333|n=>n,fun|9=>9|3=>3|4=>4|5=>5|0=>0|46=>108|146=>417|51=>149|n=>n,fun|1=>0|n=>n⟩
theorem Tryz.lays138:eH aA Tryz.lays138_ren:={
 mixed:=kR
 f138:=func375.trans (zD some kR)
 f143:=func378.trans (zD some kR)
 f195:=func376.trans (zD some kR)
 f217:=func175.trans (zD some kR)
 f218:=func377.trans (zD some kR)
 f219:=func307.trans (zD some kR)
 f224:=func223.trans (zD some kR)
 f225:=func224.trans (zD some kR)
 f266:=func237.trans (zD some kR)
 f267:=func323.trans (zD some kR)
 f314:=func333.trans (zD some kR)
 t0:=underlying0
 a0:=isAgg0
 z0:=sizeOf0
 v0:=zeroValue0
 t3:=underlying3
 a3:=isAgg3
 z3:=sizeOf3
 v3:=zeroValue3
 t4:=underlying4
 a4:=isAgg4
 z4:=sizeOf4
 v4:=zeroValue4
 t5:=underlying5
 a5:=isAgg5
 z5:=sizeOf5
 v5:=zeroValue5
 t9:=underlying9
 a9:=isAgg9
 z9:=sizeOf9
 v9:=zeroValue9
 t46:=underlying108
 a46:=isAgg108
 z46:=sizeOf108
 v46:=zeroValue108
 t51:=underlying149
 a51:=isAgg149
 z51:=sizeOf149
 v51:=zeroValue149
 t146:=underlying417
 a146:=isAgg417
 z146:=sizeOf417
 v146:=zeroValue417
 g1:=by kernel_rfl }
open Go.RowKit Go.Lib in
theorem Tryz.strings_Count_one s c w:
 Calls aA 375 #[.string s,.string ⟨#[c]⟩] w fun e w'=>e= .returned (.int .i64 (Lib.countByte s.data.toList c))∧w'=w:=Any.strings_Count_one Tryz.lays138 s c w
def Tryz.lays189_ren:aC:=⟨fun|189=>28|125=>47|257=>46|128=>75|129=>76|294=>66|295=>67|296=>68|297=>69|298=>70|299=>71|216=>72|300=>73|301=>74|328=>100|329=>101|330=>102|331=>103|332=>104|215=>64|343=>154|n=>n,fun|28=>35|3=>3|46=>108|0=>0|51=>149|53=>151|4=>4|183=>141|182=>140|131=>146|5=>5|9=>9|218=>192|222=>196|228=>251|229=>252|n=>n,fun|n=>n⟩
theorem Tryz.lays189:eP aA Tryz.lays189_ren:={
 mixed:=kR
 f125:=func47.trans (zD some kR)
 f128:=func75.trans (zD some kR)
 f129:=func76.trans (zD some kR)
 f189:=func28.trans (zD some kR)
 f215:=func64.trans (zD some kR)
 f216:=func72.trans (zD some kR)
 f257:=func46.trans (zD some kR)
 f294:=func66.trans (zD some kR)
 f295:=func67.trans (zD some kR)
 f296:=func68.trans (zD some kR)
 f297:=func69.trans (zD some kR)
 f298:=func70.trans (zD some kR)
 f299:=func71.trans (zD some kR)
 f300:=func73.trans (zD some kR)
 f301:=func74.trans (zD some kR)
 f328:=func100.trans (zD some kR)
 f329:=func101.trans (zD some kR)
 f330:=func102.trans (zD some kR)
 f331:=func103.trans (zD some kR)
 f332:=func104.trans (zD some kR)
 f343:=func154.trans (zD some kR)
 t0:=underlying0
 a0:=isAgg0
 z0:=sizeOf0
 v0:=zeroValue0
 t3:=underlying3
 a3:=isAgg3
 z3:=sizeOf3
 v3:=zeroValue3
 t4:=underlying4
 a4:=isAgg4
 z4:=sizeOf4
 v4:=zeroValue4
 t5:=underlying5
 a5:=isAgg5
 z5:=sizeOf5
 v5:=zeroValue5
 t9:=underlying9
 a9:=isAgg9
 z9:=sizeOf9
 v9:=zeroValue9
 t28:=underlying35
 a28:=isAgg35
 z28:=sizeOf35
 v28:=zeroValue35
 t46:=underlying108
 a46:=isAgg108
 z46:=sizeOf108
 v46:=zeroValue108
 t51:=underlying149
 a51:=isAgg149
 z51:=sizeOf149
 v51:=zeroValue149
 t53:=underlying151
 a53:=isAgg151
 z53:=sizeOf151
 v53:=zeroValue151
 t131:=underlying146
 a131:=isAgg146
 z131:=sizeOf146
 v131:=zeroValue146
 t182:=underlying140
 a182:=isAgg140
 z182:=sizeOf140
 v182:=zeroValue140
 t183:=underlying141
 a183:=isAgg141
 z183:=sizeOf141
 v183:=zeroValue141
 t218:=underlying192
 a218:=isAgg192
 z218:=sizeOf192
 v218:=zeroValue192
 t222:=underlying196
 a222:=isAgg196
 z222:=sizeOf196
 v222:=zeroValue196
 t228:=underlying251
 a228:=isAgg251
 z228:=sizeOf251
 v228:=zeroValue251
 t229:=underlying252
 a229:=isAgg252
 z229:=sizeOf252
 v229:=zeroValue252 }
open Go.Sort Go.RowKit in
theorem Tryz.slices_Sort_int h off A (zs:List Int) w (O:Holds (aH .i64) w h off zs.toArray)(G:h<w.heap.size)(N:zs.length<4611686018427387904):
 Calls aA 28 #[.slice (some ⟨h,off,none⟩) zs.length A] w fun e w'=>
  e= .returned (.tuple #[])∧∃n os,w'=grow (putRow (aH .i64) (aG w n) h off (zs.mergeSort fun x y=>decide (x≤y)).toArray) os:=Any.slices_Sort_int Tryz.lays189 h off A zs w O G N
def Tryz.lays190_ren:aC:=⟨fun|190=>90|125=>47|258=>135|128=>75|129=>76|302=>179|303=>180|304=>181|305=>182|306=>183|307=>184|308=>185|309=>186|310=>187|333=>240|329=>101|330=>102|334=>241|335=>242|336=>243|344=>282|n=>n,fun|31=>123|9=>9|3=>3|46=>108|0=>0|51=>149|53=>151|4=>4|183=>141|182=>140|131=>146|5=>5|218=>192|222=>196|228=>251|229=>252|n=>n,fun|n=>n⟩
theorem Tryz.lays190:eU aA Tryz.lays190_ren:={
 mixed:=kR
 f125:=func47.trans (zD some kR)
 f128:=func75.trans (zD some kR)
 f129:=func76.trans (zD some kR)
 f190:=func90.trans (zD some kR)
 f258:=func135.trans (zD some kR)
 f302:=func179.trans (zD some kR)
 f303:=func180.trans (zD some kR)
 f304:=func181.trans (zD some kR)
 f305:=func182.trans (zD some kR)
 f306:=func183.trans (zD some kR)
 f307:=func184.trans (zD some kR)
 f308:=func185.trans (zD some kR)
 f309:=func186.trans (zD some kR)
 f310:=func187.trans (zD some kR)
 f329:=func101.trans (zD some kR)
 f330:=func102.trans (zD some kR)
 f333:=func240.trans (zD some kR)
 f334:=func241.trans (zD some kR)
 f335:=func242.trans (zD some kR)
 f336:=func243.trans (zD some kR)
 f344:=func282.trans (zD some kR)
 t0:=underlying0
 a0:=isAgg0
 z0:=sizeOf0
 v0:=zeroValue0
 t3:=underlying3
 a3:=isAgg3
 z3:=sizeOf3
 v3:=zeroValue3
 t4:=underlying4
 a4:=isAgg4
 z4:=sizeOf4
 v4:=zeroValue4
 t5:=underlying5
 a5:=isAgg5
 z5:=sizeOf5
 v5:=zeroValue5
 t9:=underlying9
 a9:=isAgg9
 z9:=sizeOf9
 v9:=zeroValue9
 t31:=underlying123
 a31:=isAgg123
 z31:=sizeOf123
 v31:=zeroValue123
 t46:=underlying108
 a46:=isAgg108
 z46:=sizeOf108
 v46:=zeroValue108
 t51:=underlying149
 a51:=isAgg149
 z51:=sizeOf149
 v51:=zeroValue149
 t53:=underlying151
 a53:=isAgg151
 z53:=sizeOf151
 v53:=zeroValue151
 t131:=underlying146
 a131:=isAgg146
 z131:=sizeOf146
 v131:=zeroValue146
 t182:=underlying140
 a182:=isAgg140
 z182:=sizeOf140
 v182:=zeroValue140
 t183:=underlying141
 a183:=isAgg141
 z183:=sizeOf141
 v183:=zeroValue141
 t218:=underlying192
 a218:=isAgg192
 z218:=sizeOf192
 v218:=zeroValue192
 t222:=underlying196
 a222:=isAgg196
 z222:=sizeOf196
 v222:=zeroValue196
 t228:=underlying251
 a228:=isAgg251
 z228:=sizeOf251
 v228:=zeroValue251
 t229:=underlying252
 a229:=isAgg252
 z229:=sizeOf252
 v229:=zeroValue252 }
open Go.Sort Go.RowKit in
theorem Tryz.slices_Sort_string h off A (ss:List (List UInt8)) w (O:Holds encStr w h off ss.toArray)(G:h<w.heap.size)(N:ss.length<4611686018427387904):
 Calls aA 90 #[.slice (some ⟨h,off,none⟩) ss.length A] w fun e w'=>
  e= .returned (.tuple #[])∧∃n os,w'=grow (putRow encStr (aG w n) h off (ss.mergeSort fun x y=>decide (x≤y)).toArray) os:=Any.slices_Sort_string Tryz.lays190 h off A ss w O G N
def Tryz.lays99_ren:aC:=⟨fun|99=>56|206=>92|n=>n,fun|9=>9|4=>4|3=>3|n=>n,fun|n=>n⟩
theorem Tryz.lays99:fM aA Tryz.lays99_ren:={
 mixed:=kR
 f99:=func56.trans (zD some kR)
 f206:=func92.trans (zD some kR)
 t3:=underlying3
 a3:=isAgg3
 z3:=sizeOf3
 v3:=zeroValue3
 t4:=underlying4
 a4:=isAgg4
 z4:=sizeOf4
 v4:=zeroValue4
 t9:=underlying9
 a9:=isAgg9
 z9:=sizeOf9
 v9:=zeroValue9 }
open Go.RowKit Go.Lib in
theorem Tryz.strings_HasPrefix s p w:
 Calls aA 56 #[.string s,.string p] w fun e w'=>e= .returned (.bool (Lib.hasPrefix s.data.toList p.data.toList))∧w'=w:=Any.strings_HasPrefix Tryz.lays99 s p w
def Tryz.lays157_ren:aC:=⟨fun|157=>312|229=>217|199=>325|261=>342|311=>346|312=>347|n=>n,fun|9=>9|31=>123|3=>3|5=>5|4=>4|119=>363|0=>0|40=>209|152=>347|21=>21|154=>349|51=>149|141=>425|196=>431|193=>428|198=>434|49=>432|194=>429|201=>437|226=>440|46=>108|227=>441|n=>n,fun|0=>4|6=>5|n=>n⟩
theorem Tryz.lays157:eX aA Tryz.lays157_ren:={
 mixed:=kR
 f157:=func312.trans (zD some kR)
 f199:=func325.trans (zD some kR)
 f229:=func217.trans (zD some kR)
 f261:=func342.trans (zD some kR)
 f311:=func346.trans (zD some kR)
 f312:=func347.trans (zD some kR)
 t0:=underlying0
 a0:=isAgg0
 z0:=sizeOf0
 v0:=zeroValue0
 t3:=underlying3
 a3:=isAgg3
 z3:=sizeOf3
 v3:=zeroValue3
 t4:=underlying4
 a4:=isAgg4
 z4:=sizeOf4
 v4:=zeroValue4
 t5:=underlying5
 a5:=isAgg5
 z5:=sizeOf5
 v5:=zeroValue5
 t9:=underlying9
 a9:=isAgg9
 z9:=sizeOf9
 v9:=zeroValue9
 t21:=underlying21
 a21:=isAgg21
 z21:=sizeOf21
 v21:=zeroValue21
 t31:=underlying123
 a31:=isAgg123
 z31:=sizeOf123
 v31:=zeroValue123
 t40:=underlying209
 a40:=isAgg209
 z40:=sizeOf209
 v40:=zeroValue209
 t46:=underlying108
 a46:=isAgg108
 z46:=sizeOf108
 v46:=zeroValue108
 t49:=underlying432
 a49:=isAgg432
 z49:=sizeOf432
 v49:=zeroValue432
 t51:=underlying149
 a51:=isAgg149
 z51:=sizeOf149
 v51:=zeroValue149
 t119:=underlying363
 a119:=isAgg363
 z119:=sizeOf363
 t141:=underlying425
 a141:=isAgg425
 z141:=sizeOf425
 v141:=zeroValue425
 t152:=underlying347
 a152:=isAgg347
 z152:=sizeOf347
 v152:=zeroValue347
 t154:=underlying349
 a154:=isAgg349
 z154:=sizeOf349
 v154:=zeroValue349
 t193:=underlying428
 a193:=isAgg428
 z193:=sizeOf428
 v193:=zeroValue428
 t194:=underlying429
 a194:=isAgg429
 z194:=sizeOf429
 v194:=zeroValue429
 t196:=underlying431
 a196:=isAgg431
 z196:=sizeOf431
 v196:=zeroValue431
 t198:=underlying434
 a198:=isAgg434
 z198:=sizeOf434
 v198:=zeroValue434
 t201:=underlying437
 a201:=isAgg437
 z201:=sizeOf437
 v201:=zeroValue437
 t226:=underlying440
 a226:=isAgg440
 z226:=sizeOf440
 v226:=zeroValue440
 t227:=underlying441
 a227:=isAgg441
 z227:=sizeOf441
 v227:=zeroValue441
 g0:=kR
 g6:=by kernel_rfl }
def Tryz.lays152_ren:aC:=⟨fun|152=>167|137=>126|119=>222|224=>223|225=>224|217=>175|266=>237|n=>n,fun|9=>9|21=>21|3=>3|4=>4|5=>5|0=>0|46=>108|n=>n,fun|n=>n⟩
theorem Tryz.lays152:eY aA Tryz.lays152_ren:={
 mixed:=kR
 f119:=func222.trans (zD some kR)
 f137:=func126.trans (zD some kR)
 f152:=func167.trans (zD some kR)
 f217:=func175.trans (zD some kR)
 f224:=func223.trans (zD some kR)
 f225:=func224.trans (zD some kR)
 f266:=func237.trans (zD some kR)
 t0:=underlying0
 a0:=isAgg0
 z0:=sizeOf0
 v0:=zeroValue0
 t3:=underlying3
 a3:=isAgg3
 z3:=sizeOf3
 v3:=zeroValue3
 t4:=underlying4
 a4:=isAgg4
 z4:=sizeOf4
 v4:=zeroValue4
 t5:=underlying5
 a5:=isAgg5
 z5:=sizeOf5
 v5:=zeroValue5
 t9:=underlying9
 a9:=isAgg9
 z9:=sizeOf9
 v9:=zeroValue9
 t21:=underlying21
 a21:=isAgg21
 z21:=sizeOf21
 v21:=zeroValue21
 t46:=underlying108
 a46:=isAgg108
 z46:=sizeOf108
 v46:=zeroValue108 }
open Go.RowKit Go.Lib in
theorem Tryz.strings_IndexRune_ascii s r w (h:0≤r)(A:r<128):
 Calls aA 167 #[.string s,.int .i32 r] w fun e w'=>e= .returned (.int .i64 (aZ s.data.toList r.toNat.toUInt8))∧w'=w:=Any.strings_IndexRune_ascii Tryz.lays152 s r w h A
def Tryz.lays151_ren:aC:=⟨fun|151=>117|152=>167|137=>126|119=>222|224=>223|225=>224|217=>175|266=>237|n=>n,fun|9=>9|21=>21|4=>4|3=>3|5=>5|0=>0|46=>108|n=>n,fun|n=>n⟩
theorem Tryz.lays151:fA aA Tryz.lays151_ren:={
 mixed:=kR
 f119:=func222.trans (zD some kR)
 f137:=func126.trans (zD some kR)
 f151:=func117.trans (zD some kR)
 f152:=func167.trans (zD some kR)
 f217:=func175.trans (zD some kR)
 f224:=func223.trans (zD some kR)
 f225:=func224.trans (zD some kR)
 f266:=func237.trans (zD some kR)
 t0:=underlying0
 a0:=isAgg0
 z0:=sizeOf0
 v0:=zeroValue0
 t3:=underlying3
 a3:=isAgg3
 z3:=sizeOf3
 v3:=zeroValue3
 t4:=underlying4
 a4:=isAgg4
 z4:=sizeOf4
 v4:=zeroValue4
 t5:=underlying5
 a5:=isAgg5
 z5:=sizeOf5
 v5:=zeroValue5
 t9:=underlying9
 a9:=isAgg9
 z9:=sizeOf9
 v9:=zeroValue9
 t21:=underlying21
 a21:=isAgg21
 z21:=sizeOf21
 v21:=zeroValue21
 t46:=underlying108
 a46:=isAgg108
 z46:=sizeOf108
 v46:=zeroValue108 }
open Go.RowKit Go.Lib in
theorem Tryz.strings_ContainsRune_ascii s r w (h:0≤r)(A:r<128):
 Calls aA 117 #[.string s,.int .i32 r] w fun e w'=>e= .returned (.bool (decide (0≤aZ s.data.toList r.toNat.toUInt8)))∧w'=w:=Any.strings_ContainsRune_ascii Tryz.lays151 s r w h A
def Tryz.lays226_ren:aC:=⟨fun|226=>192|n=>n,fun|3=>3|4=>4|n=>n,fun|n=>n⟩
theorem Tryz.lays226:fB aA Tryz.lays226_ren:={
 mixed:=kR
 f226:=func192.trans (zD some kR)
 t3:=underlying3
 a3:=isAgg3
 z3:=sizeOf3
 v3:=zeroValue3
 t4:=underlying4
 a4:=isAgg4
 z4:=sizeOf4
 v4:=zeroValue4 }
open Go.RowKit Go.Lib in
theorem Tryz.strings_shouldUseASCIISet n w:
 Calls aA 192 #[.int .i64 n] w fun e w'=>e= .returned (.bool (decide (8<n)))∧w'=w:=Any.strings_shouldUseASCIISet Tryz.lays226 n w
def Tryz.lays153_ren:aC:=⟨fun|153=>137|152=>167|226=>192|227=>189|228=>193|137=>126|119=>222|224=>223|225=>224|217=>175|266=>237|n=>n,fun|9=>9|3=>3|4=>4|5=>5|21=>21|117=>294|116=>293|0=>0|46=>108|124=>297|n=>n,fun|n=>n⟩
theorem Tryz.lays153:fC aA Tryz.lays153_ren:={
 mixed:=kR
 f119:=func222.trans (zD some kR)
 f137:=func126.trans (zD some kR)
 f152:=func167.trans (zD some kR)
 f153:=func137.trans (zD some kR)
 f217:=func175.trans (zD some kR)
 f224:=func223.trans (zD some kR)
 f225:=func224.trans (zD some kR)
 f226:=func192.trans (zD some kR)
 f227:=func189.trans (zD some kR)
 f228:=func193.trans (zD some kR)
 f266:=func237.trans (zD some kR)
 t0:=underlying0
 a0:=isAgg0
 z0:=sizeOf0
 v0:=zeroValue0
 t3:=underlying3
 a3:=isAgg3
 z3:=sizeOf3
 v3:=zeroValue3
 t4:=underlying4
 a4:=isAgg4
 z4:=sizeOf4
 v4:=zeroValue4
 t5:=underlying5
 a5:=isAgg5
 z5:=sizeOf5
 v5:=zeroValue5
 t9:=underlying9
 a9:=isAgg9
 z9:=sizeOf9
 v9:=zeroValue9
 t21:=underlying21
 a21:=isAgg21
 z21:=sizeOf21
 v21:=zeroValue21
 t46:=underlying108
 a46:=isAgg108
 z46:=sizeOf108
 v46:=zeroValue108
 t116:=underlying293
 a116:=isAgg293
 z116:=sizeOf293
 t117:=underlying294
 a117:=isAgg294
 z117:=sizeOf294
 v117:=zeroValue294
 t124:=underlying297
 a124:=isAgg297
 z124:=sizeOf297
 v124:=zeroValue297 }
open Go.RowKit Go.Lib in
theorem Tryz.strings_IndexAny_long(G:∀w,(zeroValue 293).run aA w= .ok (.agg (Array.replicate 256 (.bool false))) w) s h w (O:2≤h.size)(Q:8<s.size)(hs:s.size<4294967281)(N:h.size<4294967281)(A:∀(j:Nat) b,h.data.toList[j]?=some b→b.toNat<128):
 Calls aA 137 #[.string s,.string h] w fun e w'=>e= .returned (.int .i64 (Lib.indexAny s.data.toList h.data.toList))∧w'=((w.alloc (.cells (Lib.setCells h.data.toList) 293)).alloc (.cells (Lib.setCells h.data.toList) 293)):=Any.strings_IndexAny_long Tryz.lays153 G kR s h w O Q hs N A
def Tryz.lays260_ren:aC:=⟨fun|260=>271|n=>n,fun|9=>9|21=>21|3=>3|4=>4|5=>5|119=>363|0=>0|46=>108|139=>379|138=>378|n=>n,fun|3=>2|4=>3|n=>n⟩
theorem Tryz.lays260:fD aA Tryz.lays260_ren:={
 mixed:=kR
 f260:=func271.trans (zD some kR)
 t0:=underlying0
 a0:=isAgg0
 z0:=sizeOf0
 v0:=zeroValue0
 t3:=underlying3
 a3:=isAgg3
 z3:=sizeOf3
 v3:=zeroValue3
 t4:=underlying4
 a4:=isAgg4
 z4:=sizeOf4
 v4:=zeroValue4
 t5:=underlying5
 a5:=isAgg5
 z5:=sizeOf5
 v5:=zeroValue5
 t9:=underlying9
 a9:=isAgg9
 z9:=sizeOf9
 v9:=zeroValue9
 t21:=underlying21
 a21:=isAgg21
 z21:=sizeOf21
 v21:=zeroValue21
 t46:=underlying108
 a46:=isAgg108
 z46:=sizeOf108
 v46:=zeroValue108
 t119:=underlying363
 a119:=isAgg363
 z119:=sizeOf363
 t138:=underlying378
 a138:=isAgg378
 z138:=sizeOf378
 v138:=zeroValue378
 t139:=underlying379
 a139:=isAgg379
 z139:=sizeOf379
 v139:=zeroValue379
 g3:=kR
 g4:=by kernel_rfl }
open Go.RowKit Go.Lib in
theorem Tryz.strings_Fields_any s w (hs:s.size<4294967281)(h:Lib.TabIs aA w "strings.asciiSpace" .u8 Lib.asciiSpaceTab)(G:Lib.WhiteTab 5 w):
 Calls aA 312 #[.string s] w fun e w'=>∃A,e= .returned (.slice (some ⟨A,0,none⟩) (aS s.data.toList).length (aS s.data.toList).length)∧w.heap.size≤A∧
  w'.ownsRow w.heap.size 9 1 (.slice (some ⟨A,0,none⟩) (aS s.data.toList).length (aS s.data.toList).length) (aS s.data.toList).length ((aS s.data.toList).map fun x=>dQ ⟨x.toArray⟩)∧Below w.heap.size w w':=Any.strings_Fields_any Tryz.lays157 kR kR kR s w hs h G
def Tryz.lays229_ren:aC:=⟨fun|229=>217|n=>n,fun|9=>9|40=>209|31=>123|152=>347|3=>3|0=>0|4=>4|21=>21|154=>349|n=>n,fun|n=>n⟩
theorem Tryz.lays229:fE aA Tryz.lays229_ren:={
 mixed:=kR
 f229:=func217.trans (zD some kR)
 t0:=underlying0
 a0:=isAgg0
 z0:=sizeOf0
 v0:=zeroValue0
 t3:=underlying3
 a3:=isAgg3
 z3:=sizeOf3
 v3:=zeroValue3
 t4:=underlying4
 a4:=isAgg4
 z4:=sizeOf4
 v4:=zeroValue4
 t9:=underlying9
 a9:=isAgg9
 z9:=sizeOf9
 v9:=zeroValue9
 t21:=underlying21
 a21:=isAgg21
 z21:=sizeOf21
 v21:=zeroValue21
 t31:=underlying123
 a31:=isAgg123
 z31:=sizeOf123
 v31:=zeroValue123
 t40:=underlying209
 a40:=isAgg209
 z40:=sizeOf209
 v40:=zeroValue209
 t152:=underlying347
 a152:=isAgg347
 z152:=sizeOf347
 v152:=zeroValue347
 t154:=underlying349
 a154:=isAgg349
 z154:=sizeOf349
 v154:=zeroValue349 }
def Tryz.lays230_ren:aC:=⟨fun|230=>170|197=>226|118=>227|165=>168|166=>131|168=>228|270=>229|167=>169|169=>133|260=>271|240=>178|241=>225|242=>272|276=>239|277=>270|278=>297|n=>n,fun|107=>266|9=>9|72=>224|0=>0|4=>4|3=>3|21=>21|105=>321|76=>228|5=>5|75=>227|70=>222|20=>20|37=>215|127=>285|119=>363|46=>108|139=>379|138=>378|164=>330|51=>149|80=>231|n=>n,fun|3=>2|4=>3|n=>n⟩
theorem Tryz.lays230:fF aA Tryz.lays230_ren:={
 mixed:=kR
 f118:=func227.trans (zD some kR)
 f165:=func168.trans (zD some kR)
 f166:=func131.trans (zD some kR)
 f167:=func169.trans (zD some kR)
 f168:=func228.trans (zD some kR)
 f169:=func133.trans (zD some kR)
 f197:=func226.trans (zD some kR)
 f230:=func170.trans (zD some kR)
 f240:=func178.trans (zD some kR)
 f241:=func225.trans (zD some kR)
 f242:=func272.trans (zD some kR)
 f260:=func271.trans (zD some kR)
 f270:=func229.trans (zD some kR)
 f276:=func239.trans (zD some kR)
 f277:=func270.trans (zD some kR)
 f278:=func297.trans (zD some kR)
 t0:=underlying0
 a0:=isAgg0
 z0:=sizeOf0
 v0:=zeroValue0
 t3:=underlying3
 a3:=isAgg3
 z3:=sizeOf3
 v3:=zeroValue3
 t4:=underlying4
 a4:=isAgg4
 z4:=sizeOf4
 v4:=zeroValue4
 t5:=underlying5
 a5:=isAgg5
 z5:=sizeOf5
 v5:=zeroValue5
 t9:=underlying9
 a9:=isAgg9
 z9:=sizeOf9
 v9:=zeroValue9
 t20:=underlying20
 a20:=isAgg20
 z20:=sizeOf20
 v20:=zeroValue20
 t21:=underlying21
 a21:=isAgg21
 z21:=sizeOf21
 v21:=zeroValue21
 t37:=underlying215
 a37:=isAgg215
 z37:=sizeOf215
 v37:=zeroValue215
 t46:=underlying108
 a46:=isAgg108
 z46:=sizeOf108
 v46:=zeroValue108
 t51:=underlying149
 a51:=isAgg149
 z51:=sizeOf149
 v51:=zeroValue149
 t70:=underlying222
 a70:=isAgg222
 z70:=sizeOf222
 v70:=zeroValue222
 t72:=underlying224
 a72:=isAgg224
 z72:=sizeOf224
 v72:=zeroValue224
 t75:=underlying227
 a75:=isAgg227
 z75:=sizeOf227
 v75:=zeroValue227
 t76:=underlying228
 a76:=isAgg228
 z76:=sizeOf228
 v76:=zeroValue228
 t105:=underlying321
 a105:=isAgg321
 z105:=sizeOf321
 v105:=zeroValue321
 t107:=underlying266
 a107:=isAgg266
 z107:=sizeOf266
 v107:=zeroValue266
 t119:=underlying363
 a119:=isAgg363
 z119:=sizeOf363
 t127:=underlying285
 a127:=isAgg285
 z127:=sizeOf285
 v127:=zeroValue285
 t138:=underlying378
 a138:=isAgg378
 z138:=sizeOf378
 v138:=zeroValue378
 t139:=underlying379
 a139:=isAgg379
 z139:=sizeOf379
 v139:=zeroValue379
 t164:=underlying330
 a164:=isAgg330
 z164:=sizeOf330
 v164:=zeroValue330
 g3:=kR
 g4:=by kernel_rfl }
theorem Tryz.Builder_Extra_230:bV aA Tryz.lays230_ren:={
 sizeBuilder:=kR
 liesBuilder:=kR
 t5:=underlying5
 a5:=isAgg5
 z5:=sizeOf5
 v5:=zeroValue5
 infoByte:=kR
 cellsByte:=kR
 sizeByte:=kR
 neB5:=by decide }
open Go.RowKit Go.Lib in
theorem Tryz.strings_FieldsFunc_grows g lb (eg:∀args w,(callFunc g args).run aA w= .ok (.enter g args) w) p s w (hs:s.size≤4294967296)(h:PredGrows aA g lb p w):
 Calls aA 217 #[.string s,.func (.func g) #[] lb] w fun e w'=>∃A,e= .returned (.slice (some ⟨A,0,none⟩) (aK p s).length (aK p s).length)∧w.heap.size≤A∧
  w'.ownsRow w.heap.size 9 1 (.slice (some ⟨A,0,none⟩) (aK p s).length (aK p s).length) (aK p s).length ((aK p s).map dQ)∧Below w.heap.size w w':=Any.strings_FieldsFunc_grows Tryz.lays229 g lb eg p s w hs h kR kR
open Go.RowKit Go.Lib in
theorem Tryz.strings_Map_grows g lb (eg:∀args w,(callFunc g args).run aA w= .ok (.enter g args) w) f s w (hs:s.size<35184372088832)(hf:MapGrows aA g lb f w)(h:∀x:Nat,x≤1114111→ -2147483648≤f x∧f x≤2147483647)(A:Lib.Utf8Tabs 2 3 w):
 Calls aA 170 #[.func (.func g) #[] lb,.string s] w fun e w'=>e= .returned (.string ⟨(Lib.mapD f s.data.toList).toArray⟩)∧Below w.heap.size w w':=Any.strings_Map_grows Tryz.lays230 Tryz.Builder_Extra_230 g lb eg f s w hs hf h A
def Tryz.lays109_ren:aC:=⟨fun|109=>200|n=>n,fun|31=>123|9=>9|3=>3|0=>0|4=>4|n=>n,fun|n=>n⟩
theorem Tryz.lays109:fG aA Tryz.lays109_ren:={
 mixed:=kR
 f109:=func200.trans (zD some kR)
 t0:=underlying0
 a0:=isAgg0
 z0:=sizeOf0
 v0:=zeroValue0
 t3:=underlying3
 a3:=isAgg3
 z3:=sizeOf3
 v3:=zeroValue3
 t4:=underlying4
 a4:=isAgg4
 z4:=sizeOf4
 v4:=zeroValue4
 t9:=underlying9
 a9:=isAgg9
 z9:=sizeOf9
 v9:=zeroValue9
 t31:=underlying123
 a31:=isAgg123
 z31:=sizeOf123
 v31:=zeroValue123 }
open Go.Lib in
theorem Tryz.slices_Index_string b off n c (zs:List ByteArray) x w (hz:n≤zs.length)(h:n≤9223372036854775807)(A:∀j,j<zs.length→w.cell? ⟨b,off+j,none⟩=some (.string (zs.getD j dF))):
 Calls aA 200 #[.slice (some ⟨b,off,none⟩) n c,.string x] w fun e w'=>e= .returned (.int .i64 (Lib.idxOfS (zs.take n) x))∧w'=w:=Any.slices_Index_string Tryz.lays109 b off n c zs x w hz h A
def Tryz.lays110_ren:aC:=⟨fun|110=>198|109=>200|n=>n,fun|31=>123|9=>9|4=>4|3=>3|0=>0|n=>n,fun|n=>n⟩
theorem Tryz.lays110:fH aA Tryz.lays110_ren:={
 mixed:=kR
 f109:=func200.trans (zD some kR)
 f110:=func198.trans (zD some kR)
 t0:=underlying0
 a0:=isAgg0
 z0:=sizeOf0
 v0:=zeroValue0
 t3:=underlying3
 a3:=isAgg3
 z3:=sizeOf3
 v3:=zeroValue3
 t4:=underlying4
 a4:=isAgg4
 z4:=sizeOf4
 v4:=zeroValue4
 t9:=underlying9
 a9:=isAgg9
 z9:=sizeOf9
 v9:=zeroValue9
 t31:=underlying123
 a31:=isAgg123
 z31:=sizeOf123
 v31:=zeroValue123 }
open Go.Lib in
theorem Tryz.slices_Contains_string b off n c (zs:List ByteArray) x w (hz:n≤zs.length)(h:n≤9223372036854775807)(A:∀j,j<zs.length→w.cell? ⟨b,off+j,none⟩=some (.string (zs.getD j dF))):
 Calls aA 198 #[.slice (some ⟨b,off,none⟩) n c,.string x] w fun e w'=>e= .returned (.bool (Lib.containsS (zs.take n) x))∧w'=w:=Any.slices_Contains_string Tryz.lays110 b off n c zs x w hz h A
def Tryz.laysNm220_ren:aC:=⟨fun|20=>29|n=>n,fun|22=>35|3=>3|4=>4|0=>0|n=>n,fun|n=>n⟩
theorem Tryz.laysNm220:fJ aA Tryz.laysNm220_ren:={
 mixed:=kR
 f20:=func29.trans (zD some kR)
 t0:=underlying0
 a0:=isAgg0
 z0:=sizeOf0
 v0:=zeroValue0
 t3:=underlying3
 a3:=isAgg3
 z3:=sizeOf3
 v3:=zeroValue3
 t4:=underlying4
 a4:=isAgg4
 z4:=sizeOf4
 v4:=zeroValue4
 t22:=underlying35
 a22:=isAgg35
 z22:=sizeOf35
 v22:=zeroValue35
 i3:=by kernel_rfl }
open Go.RowKit Go.Lib Go.Sort in
theorem Tryz.slices_Compact_int h off A zs w (O:Holds (aH .i64) w h off zs.toArray)(N:zs.length≤9223372036854775807)(G:zs.length≤A):
 Calls aA 29 #[.slice (some ⟨h,off,none⟩) zs.length A] w fun e w'=>e= .returned (.slice (some ⟨h,off,none⟩) (aT zs).length A)∧∃q,w'=putRow (aH .i64) (aG w q) h off (aT zs++dK (zs.length-(aT zs).length) 0).toArray:=Any.slices_Compact_int Tryz.laysNm220 h off A zs w O N G
open Go.RowKit Go.Lib Go.Sort in
theorem Tryz.slices_Compact_int_empty a h w:
 Calls aA 29 #[.slice a 0 h] w fun e w'=>e= .returned (.slice a 0 h)∧w'=w:=Any.slices_Compact_int_empty Tryz.laysNm220 a h w
def Tryz.lays194_ren:aC:=⟨fun|194=>91|n=>n,fun|31=>123|9=>9|3=>3|4=>4|0=>0|n=>n,fun|n=>n⟩
theorem Tryz.lays194:fK aA Tryz.lays194_ren:={
 mixed:=kR
 f194:=func91.trans (zD some kR)
 t0:=underlying0
 a0:=isAgg0
 z0:=sizeOf0
 v0:=zeroValue0
 t3:=underlying3
 a3:=isAgg3
 z3:=sizeOf3
 v3:=zeroValue3
 t4:=underlying4
 a4:=isAgg4
 z4:=sizeOf4
 v4:=zeroValue4
 t9:=underlying9
 a9:=isAgg9
 z9:=sizeOf9
 v9:=zeroValue9
 t31:=underlying123
 a31:=isAgg123
 z31:=sizeOf123
 v31:=zeroValue123 }
open Go.RowKit Go.Lib Go.Sort in
theorem Tryz.slices_Compact_string h off A zs w (O:Holds encStr w h off zs.toArray)(N:zs.length≤9223372036854775807)(G:zs.length≤A):
 Calls aA 91 #[.slice (some ⟨h,off,none⟩) zs.length A] w fun e w'=>e= .returned (.slice (some ⟨h,off,none⟩) (aT zs).length A)∧∃q,w'=putRow encStr (aG w q) h off (aT zs++dK (zs.length-(aT zs).length) []).toArray:=Any.slices_Compact_string Tryz.lays194 h off A zs w O N G
open Go.RowKit Go.Lib Go.Sort in
theorem Tryz.slices_Compact_string_empty a h w:
 Calls aA 91 #[.slice a 0 h] w fun e w'=>e= .returned (.slice a 0 h)∧w'=w:=Any.slices_Compact_string_empty Tryz.lays194 a h w
open Go.RowKit Go.Sort in
theorem Tryz.slices_Sort_string_none p h w:
 Calls aA 90 #[.slice p 0 h] w fun e w'=>e= .returned (.tuple #[])∧w'=w:=Any.slices_Sort_string_none Tryz.lays190 p h w
open Go.RowKit Go.Sort in
theorem Tryz.slices_Sort_int_none p h w:
 Calls aA 28 #[.slice p 0 h] w fun e w'=>e= .returned (.tuple #[])∧w'=w:=Any.slices_Sort_int_none Tryz.lays189 p h w
def Tryz.laysSlE041_f27_ren:aC:=⟨fun|41=>27|n=>n,fun|22=>35|23=>3|4=>4|n=>n,fun|n=>n⟩
theorem Tryz.laysSlE041_f27:dR aA Tryz.laysSlE041_f27_ren:={
 mixed:=kR
 f41:=⟨Tryz.f27.name,dE,func27.trans (zD some kR)⟩
 t4:=underlying4
 a4:=isAgg4
 z4:=sizeOf4
 v4:=zeroValue4
 t22:=underlying35
 a22:=isAgg35
 z22:=sizeOf35
 v22:=zeroValue35 }
open Go.RowKit Go.Lib in
theorem Tryz.slices_Clone G z size A (hi:aA.info? 3=some G)(Q:G.zero=some z)(Z:G.size=size)(a0:G.bytes=A)(a1:z.cells.size=size)(a2:0<size)(a3:∀w,(Go.sizeOf 3).run aA w= .ok size w) b off n c h w (hl:h.length=n*size)(hn:n≤maxLen)(N:n*A≤140737488355328)(hc:∀j u,h[j]?=some u→w.cell? ⟨b,off+j,none⟩=some u)(h1:∀u∈h,u.oneCell'=true):
 Calls aA 27 #[.slice (some ⟨b,off,none⟩) n c] w fun e w'=>∃O,e= .returned O∧w'.ownsRow w.heap.size 3 size O n h∧O≠ .slice none 0 0∧Below w.heap.size w w':=AnyE.slices_Clone Tryz.laysSlE041_f27 G z size A hi Q Z a0 a1 a2 a3 b off n c h w hl hn N hc h1
open Go.RowKit Go.Lib in
theorem Tryz.slices_Clone_nil n c w:
 Calls aA 27 #[.slice none n c] w fun e w'=>e= .returned (.slice none 0 0)∧w'=w:=AnyE.slices_Clone_nil Tryz.laysSlE041_f27 n c w
end Go.Proofs
section
namespace Go.Sx
theorem c3Y l:(EY l).all dL=true:=by simp[EY,u8,dL]
theorem b9k x sp:(EY x++sp).take (x.length*1)=EY x:=by rw[cZ,←TD x];exact dM
end Go.Sx
namespace Go.Proofs.YtdjkhllhakhjbaaGreatDoor
open Go Go.Sx
theorem a6H{G o e}{S:World→Prop}{x y}{T E b off n c sz j:Nat}{kl}(N:o.op= .slice T x (some y) none none)(O:ev e x=some (.slice (some ⟨b,off,Option.none⟩) n c))(Q:ev e y=some (.int kl (j:Int)))(Z:G.P.underlying T=some (.slice E))(A:∀w,(sizeOf E).run G.P w= .ok sz w)(hj:j≤n)(hc:j≤c):
 CW G o e S (.slice (some ⟨b,if c=j then off else off+j*sz,none⟩) (n-j) (c-j)):=by
 by_cases h:c=j
 ·intro a w ha _;have h1:(j:Int)≤n:=oM;simp[execOp,N,ha.eval O,ha.eval Q,Instr.sliceAt,Instr.slice,run_underlying Z,Instr.sliceBounds,run_sliceBound,h1,A,h]
 rw[zF h];exact b1F N O Q Z A hj oM
theorem EW.none{α:Type}{l:List α}{i}(h:i≤l.length):EW l i [] l:=⟨by simpa using h,sI⟩
theorem c4y{E x n}(h:E.length+x.length≤n):EW (buf E n) (if n=E.length then 0 else 0+E.length*1) (EY x) (buf (E++x) n):=by
 by_cases hc:n=E.length
 ·have:x=[]:=List.length_eq_zero_iff.1 oM;subst this;rw[zG hc,dG];exact EW.none (aX _)
 rw[zF hc,bW,cZ];exact c2y h
theorem c1j s c I:Pure aA 375 [str s,str [c]] I (i64 (s.count c)):=
 Pure.of_same (Enters.of Tryz.func375 dE rfl) fun w _=>by
  have h:=Tryz.strings_Count_one ⟨s.toArray⟩ c w;rw[IJ]at h;exact h
end Go.Proofs.YtdjkhllhakhjbaaGreatDoor
end
namespace Rp
abbrev Tb:=UInt8→Option (List UInt8)
def one (r:Tb) (c:UInt8):List UInt8:=(r c).getD [c]
def rep (r:Tb) (s:List UInt8):List UInt8:=s.flatMap (one r)
def two (a:UInt8) (x:List UInt8) (b:UInt8) (y:List UInt8):Tb:=fun c=>if c=a then some x else if c=b then some y else none
def w (r:Tb) (c:UInt8):Int:=(one r c).length-1
def gain (r:Tb) (s:List UInt8):Int:=(s.map (w r)).sum
def hits (r:Tb) (s:List UInt8):Nat:=s.countP fun c=>(r c).isSome
theorem a5X r s:((rep r s).length:Int)=s.length+gain r s:=by
 induction s with
 |nil=>rfl
 |cons c s G=>
  have h:(rep r (c::s)).length=(one r c).length+(rep r s).length:=by simp[rep]
  have A:gain r (c::s)=w r c+gain r s:=by simp[gain]
  rw[h,A,bH];unfold w;omega
theorem b0q{r}:∀{s:List UInt8},hits r s=0→rep r s=s
 |[],_=>rfl
 |c::s,h=>by
  unfold hits at h;rw[dB]at h;have A:r c=none:=by
   cases hr:r c with
   |none=>rfl
   |some x=>rw[hr]at h;simp at h
  have:=b0q (r:=r) (s:=s) (by unfold hits;omega);show one r c++rep r s=c::s;rw[this];unfold one;rw[A];rfl
theorem PI{s:List UInt8}{k c}(h:s[k]?=some c):s.take (k+1)=s.take k++[c]:=by
 rw[List.take_add_one,h];rfl
theorem c0O r {s:List UInt8}{k c}(h:s[k]?=some c):rep r (s.take (k+1))=rep r (s.take k)++one r c:=by
 rw[PI h];simp[rep]
theorem b8B r {s:List UInt8}{k c}(h:s[k]?=some c):gain r (s.take (k+1))=gain r (s.take k)+w r c:=by
 rw[PI h];simp[gain]
theorem b7a r {s:List UInt8}{k c}(h:s[k]?=some c):hits r (s.take (k+1))=hits r (s.take k)+if (r c).isSome then 1 else 0:=by
 rw[PI h];simp[hits,List.countP_append,dB]
theorem b2a r s k:(rep r (s.take k)).length≤(rep r s).length:=by
 have h:rep r s=rep r (s.take k)++rep r (s.drop k):=by
  unfold rep;rw[←List.flatMap_append,List.take_append_drop]
 rw[h,aY];omega
def Two (r:Tb):Prop:=∀c x,r c=some x→x.length≤2
theorem b4X{r}(h:Two r) c: -1≤w r c∧w r c≤1:=by
 unfold w one;cases hr:r c with
 |none=>simp
 |some x=>have:=h c x hr;simp;omega
theorem a6g{r}(h:Two r):∀s:List UInt8,-(s.length:Int)≤gain r s∧gain r s≤s.length
 |[]=>by simp[gain]
 |c::s=>by
  have A:=a6g h s;have G:=b4X h c;simp only[gain,bC,bD,bH]at A ⊢;omega
def cg (r:Tb) (s:List UInt8) (ks:List UInt8):Int:=(ks.map fun k=>(s.count k:Int)*w r k).sum
def cn (s:List UInt8) (ks:List UInt8):Nat:=(ks.map fun k=>s.count k).sum
theorem c2H r s {ks:List UInt8}{i k}(h:ks[i]?=some k):cg r s (ks.take (i+1))=cg r s (ks.take i)+s.count k*w r k:=by
 rw[PI h];simp[cg]
theorem c3c s {ks:List UInt8}{i k}(h:ks[i]?=some k):cn s (ks.take (i+1))=cn s (ks.take i)+s.count k:=by
 rw[PI h];simp[cn]
theorem b4q r c s:∀(ks:List UInt8),ks.Nodup→cg r (c::s) ks=cg r s ks+if c∈ks then w r c else 0
 |[],_=>by simp[cg]
 |k::ks,h=>by
  obtain⟨N,O⟩:=List.nodup_cons.1 h;have A:=b4q r c s ks O;simp only[cg,bC,bD,List.count_cons]at A ⊢
  by_cases hk:c=k
  ·subst hk;rw[zF N]at A;simp only[beq_self_eq_true,if_true,dP,true_or];rw[A]
   push_cast
   rw[Int.add_mul];omega
  have G:(c == k)=false:=by simpa using hk
  simp only[G,dP,hk,false_or];rw[A];simp;omega
theorem b7e{r ks}(hn:ks.Nodup)(A:∀c,c∈ks↔(r c).isSome=true):∀s:List UInt8,cg r s ks=gain r s
 |[]=>by
  have h:∀l:List UInt8,(l.map fun k=>(([]:List UInt8).count k:Int)*w r k).sum=0:=fun l=>by
   induction l with
   |nil=>rfl
   |cons k l G=>rw[bC,bD,G];simp
  exact h ks
 |c::s=>by
  rw[b4q r c s ks hn,b7e hn A s];simp only[gain,bC,bD]
  by_cases h:c∈ks
  ·rw[zG h];omega
  rw[zF h];have:r c=none:=by
   cases hr:r c with
   |none=>rfl
   |some x=>exact absurd ((A c).2 (by rw[hr];rfl)) h
  have N:w r c=0:=by unfold w one;rw[this];rfl
  omega
theorem b8h{r}(h:Two r){s}(hs:s.length≤1000000000):∀ks:List UInt8,-(ks.length*1000000000:Int)≤cg r s ks∧cg r s ks≤ks.length*1000000000
 |[]=>by simp[cg]
 |k::ks=>by
  have N:=b8h h hs ks;have O:=b4X h k;have Q:s.count k≤s.length:=aV;have A:cg r s (k::ks)=s.count k*w r k+cg r s ks:=by simp[cg]
  have G:w r k= -1∨w r k=0∨w r k=1:=oM;rw[A,bH];rcases G with e|e|e<;>rw[e]<;>omega
theorem mul_two{r}(h:Two r){s:List UInt8}(hs:s.length≤1000000000) k: -1000000000≤s.count k*w r k∧s.count k*w r k≤1000000000:=by
 have G:=b4X h k;have N:s.count k≤s.length:=aV;have A:w r k= -1∨w r k=0∨w r k=1:=oM;rcases A with e|e|e<;>rw[e]<;>omega
theorem c3j{r ks}(G:∀c,c∈ks↔(r c).isSome=true){s}(h:cn s ks=0):hits r s=0:=by
 have N:∀k∈ks,s.count k=0:=by
  intro k A;unfold cn at h;exact List.sum_eq_zero_iff_forall_eq_nat.1 h _ (List.mem_map_of_mem A)
 unfold hits;rw[List.countP_eq_zero];intro c O hs;have:=N c ((G c).2 hs);rw[List.count_eq_zero]at this;exact this O
end Rp
namespace Go.Sx
open Go Go.Sort Go.Proofs
theorem a9m{w b T}{l:List (List UInt8)}{sp}(h:w.heap[b]?=some (yZ T (l.map str++sp))):Holds encStr w b 0 l.toArray:=fun j A=>by
 have G:j<l.length:=by simpa using A
 have N:(l.map str++sp)[j]?=some (str l[j]):=JL (aO G);have O:l.toArray[j]! =l[j]:=by rw[getElem!_pos _ j A];simp
 refine⟨?_,?_⟩
 ·rw[O];simp only[World.cell?,h,yZ,bW];simpa[str]using N
 simp only[World.frozen?,h,yZ];simp
theorem c3C{l l':List (List UInt8)}{sp}(A:l'.length=l.length):putCells encStr 0 l'.toArray (l.map str++sp).toArray=(l'.map str++sp).toArray:=by
 apply Array.ext_getElem?
 intro k;simp only[putCells,Array.getElem?_mapIdx,List.getElem?_toArray,List.size_toArray,aX,true_and,bW,Nat.sub_zero];rcases Nat.lt_or_ge k l.length with h|h
 ·have G:(l.map str++sp)[k]?=some (str l[k]):=JL (aO h);have N:(l'.map str++sp)[k]?=some (str (l'[k]'oM)):=JL (aO oM);have O:l'.toArray[k]! =l'[k]'oM:=by rw[getElem!_pos _ k (by simpa using(oM:k<l'.length))];simp
  rw[G,N,bM,zG oM,O];rfl
 rw[bF (by simpa using h),bF (by simp;omega),bP,bP,A];cases sp[k-l.length]? with
 |none=>rfl
 |some v=>rw[bM,zF oM]
theorem St.row{w I b T}{l l':List (List UInt8)}{sp} n os (hr:Ready I [(b,yZ T (l.map str++sp))] w)(hl:l'.length=l.length):
 St w [b] I I [(b,yZ T (l'.map str++sp))] (grow (putRow encStr (aG w n) b 0 l'.toArray) os):=by
 obtain⟨r1,r2,_,Z⟩:=hr;have hb:=r2 _ (aI.2 rfl);have N:∀{c:Nat} {o':Obj},w.heap[c]?=some o'→c<w.heap.size:=fun {c o'} h=>by
  rcases Nat.lt_or_ge c w.heap.size with O|O
  ·exact O
  simp[Array.getElem?_eq_none O]at h
 have a1:(putRow encStr (aG w n) b 0 l'.toArray).heap.size=w.heap.size:=by simp[putRow,mapBlock,aG]
 have A:∀c,c<w.heap.size→c≠b→(grow (putRow encStr (aG w n) b 0 l'.toArray) os).heap[c]?=w.heap[c]?:=fun c h a0=>by
  simp only[grow];rw[bG oM];simp only[putRow,mapBlock,aG,bQ,zF (Ne.symm a0)]
 have Q:(grow (putRow encStr (aG w n) b 0 l'.toArray) os).heap[b]?=some (yZ T (l'.map str++sp)):=by
  have a2:=N hb;simp only[grow];rw[bG oM];simp only[putRow,mapBlock,aG,bQ,if_true];rw[hb];simp only[bM,onCells,yZ];rw[c3C hl]
 refine⟨rfl,rfl,rfl,?_,?_,?_,?_,sI,?_,?_,fun _ _=>rfl,Le.refl _,a1J⟩
 ·simp only[grow,Array.size_append];omega
 ·intro c h hd;exact A c h (by simpa using hd)
 ·intro c o h;have h1:=r1 c o h;refine(A c (N h1) ?_).trans h1;rintro rfl;have:=Z _ (aI.2 rfl);rw[this]at h;cases h
 ·intro p G;rw[aI.1 G];exact Q
 ·intro p G;rw[aI.1 G];exact Z (b,yZ T (l.map str++sp)) (aI.2 rfl)
 intro p G;rw[aI.1 G];exact .inl (.head _)
end Go.Sx
namespace Go.Sx
open Go
theorem WQ{α:Type}{f:α→List Value}{n:Nat}(hf:∀x,(f x).length=n){sp:List Value}:∀{l:List α} {k:Nat} {x:α},l[k]?=some x→((l.flatMap f++sp).drop (k*n)).take n=f x
 |[],_,_,h=>by simp at h
 |y::l,0,x,h=>by
  simp at h;subst h;rw[Nat.zero_mul,bT,bZ,cO,←hf y,dM]
 |y::l,k+1,x,h=>by
  have A:l[k]?=some x:=by simpa using h
  have:=WQ hf (sp:=sp) A;rw[bZ,cO,show(k+1)*n=(f y).length+k*n by rw[hf y,Nat.add_mul];omega,←dN,List.drop_left];exact this
theorem RV{α:Type}{f:α→List Value}{n:Nat}(hf:∀x,(f x).length=n){sp:List Value}{l:List α}{k:Nat}{x:α}(h:l[k]?=some x)(j:Nat)(A:j<n):(l.flatMap f++sp)[k*n+j]?=(f x)[j]?:=by
 rw[←WQ hf (sp:=sp) h,List.getElem?_take,zG A,bY]
theorem DN{α:Type}{f n}(hf:∀x,(f x).length=n){cs sp:List Value}{o}{l:List α}(h:cs.drop o=l.flatMap f++sp){k x}(A:l[k]?=some x):(cs.drop (o+k*n)).take n=f x:=by
 rw[←dN,h];exact WQ hf A
theorem JB{α:Type}{f n}(hf:∀x,(f x).length=n){cs sp:List Value}{o}{l:List α}(h:cs.drop o=l.flatMap f++sp){k x}(A:l[k]?=some x) j (G:j<n):cs[o+k*n+j]?=(f x)[j]?:=by
 rw[←RV hf (sp:=sp) A j G,←h,bY,Nat.add_assoc]
def zN {α:Type} (f:α→List Value) (I:Heap) (l:List α) (v:Value):Prop:=
 ∃p c,v= .slice p l.length c∧l.length≤c∧(l≠[]→∃b o cs t fr sp,p=some ⟨b,o,none⟩∧I b=some (.cells (List.toArray cs) t fr)∧cs.drop o=l.flatMap f++sp)
theorem zN.mono{α:Type}{f:α→List Value}{I A:Heap}{l:List α}{v:Value}(h:zN f I l v)(G:Le I A):zN f A l v:=
 let ⟨p,c,N,O,Q⟩:=h;⟨p,c,N,O,fun hn=>let ⟨b,o,cs,t,fr,sp,Z,h5,h6⟩:=Q hn;⟨b,o,cs,t,fr,sp,Z,G _ _ h5,h6⟩⟩
theorem zN.of{α:Type}{f:α→List Value}{I:Heap}{l:List α}{T b c:Nat}{sp:List Value}(h:l.length≤c)(A:I b=some (yZ T (l.flatMap f++sp))):zN f I l (.slice (some ⟨b,0,none⟩) l.length c):=
 ⟨_,c,rfl,h,fun _=>⟨b,0,_,T,_,sp,rfl,A,rfl⟩⟩
theorem zN.nil{α:Type}{f I}:zN f I ([]:List α) (.slice none 0 0):=⟨none,0,rfl,Nat.le_refl _,fun h=>absurd rfl h⟩
theorem zT{α:Type}{l:List α}{k}(h:k<l.length):l≠[]:=fun e=>by rw[e]at h;simp at h
theorem Cj.join{h Q x y e I H}{ι:Type}(A:ι→Prop)(G:ι→Env)(O:ι→Heap)(Z:ι→HL)(k2:∀i,A i→Cj h Q y (G i) (O i) (Z i))
 (k1:(∀j e' N H',A j→Sub (G j) e'→O j=N→Z j=H'→Ej h (Exit.then (y.wpIn h.F 0 h.P Q) Q) .normal e' N H')→Cj h (Exit.then (y.wpIn h.F 0 h.P Q) Q) x e I H):Cj h Q (.seq x y) e I H:=
 bI (k1 fun j e' N H' hj hs hI hH=>aN (by subst hI hH;exact Cj.weak hs (k2 j hj)))
theorem Ej.c1B{h fn}{A:Ending→Heap→HL→Prop}{e I H H' t G T b n x}{cs:List Value}{ty fr}(hk:Keeps H' H)(hr:fn.results= #[.tmp G,.cell t T])(O:h.ds=[])(hv:eg e t=some (ptr b 0))
 (hb:yR (SS I H) b (.cells cs.toArray ty fr))(Q:∀w,(isAgg T).run h.P w= .ok true w)(Z:∀w,(sizeOf T).run h.P w= .ok n w)(hn:cs.length=n)(hx:eg e G=some x)(hp:A (.returned (.tuple #[x,.agg cs.toArray])) I H'):
 Ej h (bodyPost h.P fn (RR h.w0 h.D h.I0 A)) .ret e I H:=by
 intro a w N hs;refine⟨N.defs.trans O,_,?_,I,H',hs.sublist hk,hp⟩;have h1:=N.get t _ hv;have h3:=N.get G _ hx;have hc:∀j v,cs[j]?=some v→w.cell? ((⟨b,0,none⟩:Addr).add j)=some v:=fun j v hj=>by
  rw[Addr.add_lit];exact cell_of_heap (hb w hs.ss) (by simpa using hj)
 have h2:=run_loadCells_list (P:=h.P) (w:=w) ⟨b,0,none⟩ cs hc;rw[hn]at h2;simp[results,hr,h1,h3,asAddr,loadVar,Q,Z,h2]
end Go.Sx
namespace Go.Proofs.YtdjkhllhakhjbaaGreatDoor
open _root_.Go.Proofs.Tryz
open Go Go.Sx
def VOf (I:Heap) (o:Option (List UInt8)) (v:Value):Prop:=(o=none∧v= .slice none 0 0)∨∃x,o=some x∧a4w I x v
theorem VOf.mono{I A o v}(h:VOf I o v)(G:Le I A):VOf A o v:=h.imp id fun⟨x,N,O⟩=>⟨x,N,O.mono G⟩
def BSG (r:Rp.Tb) (I:Heap) (xb:Nat):Prop:=∃(V:Nat→Value) (tr:Value) (ks:List UInt8),I xb=some (yZ 368 (tab V tr))∧LD 9 I (ks.map fun k=>[k]) tr∧ks.Nodup∧(∀c,c∈ks↔(r c).isSome=true)∧ks.length≤256∧Rp.Two r∧∀c:UInt8,VOf I (r c) (V c.toNat)
theorem BSG.mono{r I G N}(h:BSG r I N)(A:Le I G):BSG r G N:=let ⟨V,tr,ks,O,Q,Z,h4,h5,h6,h7⟩:=h;⟨V,tr,ks,A _ _ O,Q.mono A,Z,h4,h5,h6,fun c=>(h7 c).mono A⟩
theorem b9O r xb s (hs:s.length≤1000000000) I (hb:BSG r I xb):Pure aA 373 [ptr xb 0,str s] I (str (Rp.rep r s)):=by
 refine yS.toPure ?_;obtain⟨V,tr,ks,Q,⟨tb,tc,_,rfl,ar⟩,au,a8,av,a1,hV⟩:=hb;rw[bP]at Q;have b0:=Rp.a6g a1 s;have b1:=Rp.a5X r s;refine yS.ob func373 ?_;intro w0 _;refine Cj.sr (aB yQ ?_);refine J.yX (aB yP ?_);refine aB (CG rfl rfl BU) ?_;refine aB yQ ?_;refine J.yX (aB yQ ?_);refine J.ns (Cj.join (ι:=Bool) (fun y=>y=false→Rp.rep r s=s) (fun y=>[(0,ptr xb 0),(1,str s),(5,i64 ((Rp.rep r s).length:Int)),(6,.bool y)]) (fun y=>I) (fun y=>[]) ?_ (fun a9=>?_))
 ·intro y hy;refine bI (Cj.sr (aB yP ?_));refine aB (ER rfl rfl) ?_;refine J.cd (fun af=>?_) (fun af=>?_)
  ·refine Cj.sr (aB yP ?_);refine aB yQ ?_;refine J.ns (Cj.ret (Ej.KU (Ej.bare ?_)));refine zM ?_;rw[hy (by have h:=af;simpa using h)];exact rT
  refine bU (aN (Cj.sr (aB yP ?_)));refine J.op rfl (a3j (n:=(Rp.rep r s).length) (c:=(Rp.rep r s).length) (by1:=1) (z:=(.int .u8 0)) rfl rfl rfl rfl rfl FK kR rfl oM oM oM ?_);intro b2 _;refine aB yQ ?_;refine J.yX (aB yQ ?_);refine J.zX (aP (aB yQ ?_));refine J.ns (bJ (Cj.loop (ι:=Nat) (fun j=>j≤s.length) (fun j=>s.length-j) (fun j=>[(0,ptr xb 0),(1,str s),(12,.slice (some ⟨b2,0,none⟩) (Rp.rep r s).length (Rp.rep r s).length),(13,i64 ((Rp.rep r (s.take j)).length:Int)),(14,i64 (j:Int))]) (fun j=>I) (fun j=>[(b2,yZ 5 (buf (Rp.rep r (s.take j)) (Rp.rep r s).length))]) 0 (aX _) rT rfl (by rw[List.take_zero];exact zD (fun l=>[(_,yZ 5 l)]) (c3k _)) ?_));intro j hj;have aw:=Rp.b2a r s j;refine bI (Cj.sr (aB yP ?_));refine aB yP ?_;refine aB (CG rfl rfl BU) ?_;refine aB AV ?_;refine J.cd (fun aa=>?_) (fun aa=>?_)
  ·have ao:=BH aa;have a5:j<s.length:=oM;obtain⟨c,a0⟩:∃c,s[j]?=some c:=⟨_,DC a5⟩;have ag:=Rp.c0O r a0;have az:=Rp.b2a r s (j+1);refine bU (aN (bI (bJ (Cj.sr (aB yP ?_)))));refine aB yP ?_;refine aB (GK rfl rfl rfl BU oM a0) ?_;refine aB yQ ?_;refine J.yX ?_;rcases hV c with⟨N,O⟩|⟨x,N,l,cc,sp,fr,O,hl⟩
   ·have G:Rp.one r c=[c]:=by unfold Rp.one;rw[N];rfl
    have hw:Rp.w r c=0:=by unfold Rp.w;rw[G];rfl
    have a2:Rp.rep r (s.take (j+1))=Rp.rep r (s.take j)++[c]:=ag.trans (by rw[G]);have a6:(Rp.rep r (s.take (j+1))).length=(Rp.rep r (s.take j)).length+1:=by rw[a2,aY];rfl
    refine aB yP ?_;refine aB yP ?_;refine aB zQ ?_;refine aB (qq2 (off':=0) NK UR) ?_;refine aB (JU (off':=c.toNat) rfl rfl rfl WU JG oM (by have:=c.toNat_lt;omega) sI) ?_;refine aB (EF OC (aU Q) (SX _ _ c.toNat_lt)) ?_;refine J.eqv 100 rfl (show _= .slice none 0 0 from O) ?_;refine aB (YU _ rfl rfl rfl FK) ?_;refine J.c0 (fun _=>?_);refine Cj.sr (aB yP ?_);refine aB yP ?_;refine aB yP ?_;refine aB (AU (off':=(Rp.rep r (s.take j)).length) FK VN) ?_;refine J.op rfl (RU 0 rfl rfl rfl rfl rfl rfl VN rfl (.inl rfl) (by rw[b4u aw];omega) (by rw[c2e _ oM];exact DZ.z) ?_);refine J.GI (aB yP ?_);refine aB (yY rfl rfl rfl (zV oM)) ?_;refine aB yQ ?_;refine J.nil (aQ (aN (aP (aB yP ?_))));refine aB (yY rfl rfl rfl (zV oM)) ?_;refine aB yQ ?_;refine J.nil (bK (j+1) oM oM ⟨rfl,rfl,rfl,by rw[a6];rfl,rfl,trivial⟩ rfl (zD (fun l=>[(_,yZ _ (buf l _))]) a2))
   have ah:=a1 c x N;have G:Rp.one r c=x:=by unfold Rp.one;rw[N];rfl
   have hw:Rp.w r c=(x.length:Int)-1:=by unfold Rp.w;rw[G]
   have a2:Rp.rep r (s.take (j+1))=Rp.rep r (s.take j)++x:=ag.trans (by rw[G]);have a6:(Rp.rep r (s.take (j+1))).length=(Rp.rep r (s.take j)).length+x.length:=by rw[a2,aY]
   refine aB yP ?_;refine aB yP ?_;refine aB zQ ?_;refine aB (qq2 (off':=0) NK UR) ?_;refine aB (JU (off':=c.toNat) rfl rfl rfl WU JG oM (by have:=c.toNat_lt;omega) sI) ?_;refine aB (EF OC (aU Q) (SX _ _ c.toNat_lt)) ?_;refine J.eqv 100 rfl (show _= .slice (some ⟨l,0,none⟩) x.length cc from O) ?_;refine aB (YU _ rfl rfl rfl FK) ?_;refine J.c1 (fun _=>?_);refine Cj.JD [] [] 13 kR ?_;refine JA.fix BX (fun Z=>?_);refine aF 0 rfl Z yP ?_;refine aF 1 rfl Z yP ?_;refine aF 2 rfl Z yP ?_;refine aF 3 rfl Z (a6H rfl rfl rfl FK VN oM oM) ?_;refine aF 4 rfl Z yP ?_;refine aF 5 rfl Z yP ?_;refine aF 6 rfl Z zQ ?_;refine aF 7 rfl Z (qq2 (off':=0) NK UR) ?_;refine aF 8 rfl Z (JU (off':=c.toNat) rfl rfl rfl WU JG oM (by have:=c.toNat_lt;omega) sI) ?_;refine aF 9 rfl Z (EF OC (yR.WH Q) (SX _ _ c.toNat_lt)) ?_;refine JA.eqv 111 rfl (show _= .slice (some ⟨l,0,none⟩) x.length cc from O) ?_;refine zO 10 rfl (c3M (m:=x.length) 0 rfl rfl rfl rfl rfl FK VN (Src.slice (ys:=EY x) (aU hl) (by rw[bT];exact b9k x sp) (by rw[TD,cZ]) (c3Y x)) oM rfl (c4y (E:=Rp.rep r (s.take j)) (x:=x) (n:=(Rp.rep r s).length) oM) DZ.z ?_);refine⟨EK,?_⟩;refine JA.fix BX (fun ai=>?_);refine aF 11 rfl ai (yY rfl rfl rfl (zV oM)) ?_;refine aF 12 rfl ai yQ ?_;refine AA ?_;refine aQ (aN (aP (aB yP ?_)));refine aB (yY rfl rfl rfl (zV oM)) ?_;refine aB yQ ?_;refine J.nil (bK (j+1) oM oM ⟨rfl,rfl,rfl,by rw[a6];rfl,rfl,trivial⟩ rfl (zD (fun l=>[(_,yZ _ (buf l _))]) a2))
  have ao:=BJ aa;have a3:s.take j=s:=aJ oM;refine Cj.exit (dH (dA (dI (aN (Cj.sr (aB yP ?_))))));refine aB (a0t (Rp.rep r s) rfl rfl rfl FK BU XL (yR.at 0 rfl) (by rw[a3,c0S rfl,dG];exact aJ (by rw[bT,TD];exact Nat.le_refl _))) ?_;refine aB yQ ?_;refine J.ns (Cj.ret (Ej.bare ?_));refine zM ?_;exact rT
 refine Cj.sr (aB yP ?_);refine aB zQ ?_;refine aB (qq2 (off':=256) NK KR) ?_;refine aB (EF PY (aU Q) (a6I _ _)) ?_;refine aB (zZ AO) ?_;refine aB (a1W rfl rfl rfl (zV oM)) ?_;refine aB yP ?_;refine aB (CG rfl rfl BU) ?_;refine aB (ZC rfl rfl rfl) ?_;refine J.cd (fun ab=>?_) (fun ab=>?_)
 ·have ap:=BH ab;refine Cj.sr (aB yP ?_);refine aB zQ ?_;refine aB (qq2 (off':=256) NK KR) ?_;refine aB (EF PY (aU Q) (a6I _ _)) ?_;refine aB (zZ AO) ?_;refine aB yP ?_;refine J.ns (bJ (Cj.loop (ι:=Nat) (fun i=>i≤ks.length) (fun i=>ks.length-i) (fun i=>[(0,ptr xb 0),(1,str s),(5,i64 ((s.length:Int)+Rp.cg r s (ks.take i))),(6,.bool (decide (0<Rp.cn s (ks.take i)))),(30,.slice (some ⟨tb,0,none⟩) ks.length tc),(31,i64 (ks.length:Int)),(32,i64 (i:Int))]) (fun i=>I) (fun i=>[]) 0 (aX _) ⟨rfl,rfl,(zD (fun z=>some (aH .i64 z)) (by simp[Rp.cg])),rfl,rfl,rfl,rfl,trivial⟩ rfl rfl ?_));intro i hi;have ax:=Rp.b8h a1 hs (ks.take i);rw[dD,dJ hi]at ax;refine Cj.sr (aB AV ?_);refine J.nss (Cj.cond rfl (fun ac=>?_) (fun ac=>?_))
  ·have aq:=BH ac;have a5:i<ks.length:=oM;obtain⟨k,hk⟩:∃k,ks[i]?=some k:=⟨_,DC a5⟩;have aj:=Rp.c2H r s hk;have ak:=Rp.c3c s hk;have hm:=Rp.mul_two a1 hs k;have av:=k.toNat_lt;have hcl:s.count k≤s.length:=aV;obtain⟨x,al,l,cc,sp,fr,O,hl⟩:=(hV k).resolve_left fun g=>by have:=(a8 k).1 (FQ hk);rw[g.1]at this;cases this
   have ah:=a1 k x al;have hw:Rp.w r k=(x.length:Int)-1:=by unfold Rp.w Rp.one;rw[al];rfl
   refine bU (aN (bI (bJ (Cj.sr (aB (AU (off':=i) AO zS) ?_)))));refine aB (II rfl rfl BR (aU ar) (JL (x:=[k]) (by rw[List.getElem?_map,hk];rfl))) ?_;refine aB yQ ?_;refine J.yX (aB yP ?_);refine aB yP ?_;refine J.op rfl (yU rfl rfl rfl rfl rfl (c1j s k _) ?_);refine aB yQ ?_;refine J.yX (aB yP ?_);refine aB (GH rfl rfl rfl) ?_;refine J.cd (fun a4=>?_) (fun a4=>?_)
   ·have ad:=bne_iff_ne.1 a4;have h0:s.count k≠0:=by have h:=a4;simpa using h
    refine bI (Cj.JD [] [] 14 kR ?_);refine JA.fix BX (fun A=>?_);refine aF 0 rfl A yP ?_;refine aF 1 rfl A yP ?_;refine aF 2 rfl A yP ?_;refine aF 3 rfl A yP ?_;refine aF 4 rfl A (GK rfl rfl rfl BU dE rfl) ?_;refine aF 5 rfl A zQ ?_;refine aF 6 rfl A (qq2 (off':=0) NK UR) ?_;refine aF 7 rfl A (JU (off':=k.toNat) rfl rfl rfl WU JG oM (by have:=k.toNat_lt;omega) sI) ?_;refine aF 8 rfl A (EF OC (yR.WH Q) (SX _ _ k.toNat_lt)) ?_;refine JA.eqv 49 rfl (show _= .slice (some ⟨l,0,none⟩) x.length cc from O) ?_;refine aF 9 rfl A (zZ FK) ?_;refine aF 10 rfl A (EP rfl rfl rfl (zV oM)) ?_;refine JA.eqv 51 rfl (show _=i64 (Rp.w r k) from(zD i64 hw.symm)) ?_;refine aF 11 rfl A (a1W rfl rfl rfl (zV oM)) ?_;refine aF 12 rfl A (yY rfl rfl rfl (zV oM)) ?_;refine aF 13 rfl A yQ ?_;refine AA ?_;refine aN (aP (aB yQ ?_));refine J.nil (aQ (aN (aP (aB (yY rfl rfl rfl (zV oM)) ?_))));refine aB yP ?_;refine J.nil (bK (i+1) oM oM ⟨rfl,rfl,(zD (fun z=>some (aH .i64 z)) (by rw[aj];omega)),(zD (fun z=>some (aW z)) (by rw[ak];exact(zI oM).symm)),rfl,rfl,rfl,trivial⟩ rfl rfl)
   have ad:=DI a4;have h0:s.count k=0:=by have h:=a4;simpa using h
   refine bU (aQ (aN (aP (aB (yY rfl rfl rfl (zV oM)) ?_))));refine aB yP ?_;refine J.nil (bK (i+1) oM oM ⟨rfl,rfl,(zD (fun z=>some (aH .i64 z)) (by rw[aj,h0];omega)),(zD (fun z=>some (aW z)) (by rw[ak,h0];rfl)),rfl,rfl,rfl,trivial⟩ rfl rfl)
  have aq:=BJ ac;have a3:ks.take i=ks:=aJ oM;refine Cj.exit (dH (dA (dI ?_)));exact a9 (decide (0<Rp.cn s ks)) _ _ _ (fun h=>Rp.b0q (Rp.c3j a8 (by have:=BJ h;omega))) ⟨rfl,rfl,(zD (fun z=>some (aH .i64 z)) (by rw[a3,Rp.a5X,Rp.b7e au a8])),(zD (fun l=>some (aW (decide (0<Rp.cn s l)))) a3),trivial⟩ rfl rfl
 have ap:=BJ ab;refine Cj.sr (aB yQ ?_);refine J.ns (bJ (Cj.loop (ι:=Nat) (fun j=>j≤s.length) (fun j=>s.length-j) (fun j=>[(0,ptr xb 0),(1,str s),(5,i64 ((s.length:Int)+Rp.gain r (s.take j))),(6,.bool (decide (0<Rp.hits r (s.take j)))),(10,i64 (j:Int))]) (fun j=>I) (fun j=>[]) 0 (aX _) ⟨rfl,rfl,(zD (fun z=>some (aH .i64 z)) (by simp[Rp.gain])),rfl,rfl,trivial⟩ rfl rfl ?_));intro j hj;have ay:=Rp.a6g a1 (s.take j);rw[dD,dJ hj]at ay;refine bI (Cj.sr (aB yP ?_));refine aB yP ?_;refine aB (CG rfl rfl BU) ?_;refine aB AV ?_;refine J.cd (fun a7=>?_) (fun a7=>?_)
 ·have ae:=BH a7;have a5:j<s.length:=oM;obtain⟨c,a0⟩:∃c,s[j]?=some c:=⟨_,DC a5⟩;have am:=Rp.b8B r a0;have an:=Rp.b7a r a0;refine bU (aN (bI (bJ (Cj.sr (aB yP ?_)))));refine aB yP ?_;refine aB (GK rfl rfl rfl BU oM a0) ?_;refine aB yQ ?_;refine J.yX ?_;rcases hV c with⟨N,O⟩|⟨x,N,l,cc,sp,fr,O,hl⟩
  ·have G:Rp.one r c=[c]:=by unfold Rp.one;rw[N];rfl
   have hw:Rp.w r c=0:=by unfold Rp.w;rw[G];rfl
   refine aB yP ?_;refine aB yP ?_;refine aB zQ ?_;refine aB (qq2 (off':=0) NK UR) ?_;refine aB (JU (off':=c.toNat) rfl rfl rfl WU JG oM (by have:=c.toNat_lt;omega) sI) ?_;refine aB (EF OC (aU Q) (SX _ _ c.toNat_lt)) ?_;refine J.eqv 69 rfl (show _= .slice none 0 0 from O) ?_;refine aB (YU _ rfl rfl rfl FK) ?_;refine J.c0 (fun _=>?_);refine bU (aQ (aN (aP (aB yP ?_))));refine aB (yY rfl rfl rfl (zV oM)) ?_;refine aB yQ ?_;refine J.nil (bK (j+1) oM oM ⟨rfl,rfl,(zD (fun z=>some (aH .i64 z)) (by rw[am,hw];omega)),(zD (fun z=>some (aW z)) (by rw[an,N];rfl)),rfl,trivial⟩ rfl rfl)
  have ah:=a1 c x N;have G:Rp.one r c=x:=by unfold Rp.one;rw[N];rfl
  have hw:Rp.w r c=(x.length:Int)-1:=by unfold Rp.w;rw[G]
  refine aB yP ?_;refine aB yP ?_;refine aB zQ ?_;refine aB (qq2 (off':=0) NK UR) ?_;refine aB (JU (off':=c.toNat) rfl rfl rfl WU JG oM (by have:=c.toNat_lt;omega) sI) ?_;refine aB (EF OC (aU Q) (SX _ _ c.toNat_lt)) ?_;refine J.eqv 69 rfl (show _= .slice (some ⟨l,0,none⟩) x.length cc from O) ?_;refine aB (YU _ rfl rfl rfl FK) ?_;refine J.c1 (fun _=>?_);refine Cj.sr (aB yP ?_);refine aB yP ?_;refine aB yP ?_;refine aB zQ ?_;refine aB (qq2 (off':=0) NK UR) ?_;refine aB (JU (off':=c.toNat) rfl rfl rfl WU JG oM (by have:=c.toNat_lt;omega) sI) ?_;refine aB (EF OC (aU Q) (SX _ _ c.toNat_lt)) ?_;refine J.eqv 77 rfl (show _= .slice (some ⟨l,0,none⟩) x.length cc from O) ?_;refine aB (zZ FK) ?_;refine aB (EP rfl rfl rfl (zV oM)) ?_;refine aB (yY rfl rfl rfl (zV oM)) ?_;refine aB yQ ?_;refine J.GI (aB yQ ?_);refine J.nil (aQ (aN (aP (aB yP ?_))));refine aB (yY rfl rfl rfl (zV oM)) ?_;refine aB yQ ?_;refine J.nil (bK (j+1) oM oM ⟨rfl,rfl,(zD (fun z=>some (aH .i64 z)) (by rw[am,hw];omega)),(zD (fun z=>some (aW z)) (by rw[an,N];exact(zI (Nat.succ_pos _)).symm)),rfl,trivial⟩ rfl rfl)
 have ae:=BJ a7;have a3:s.take j=s:=aJ oM;refine Cj.exit (dH (dA (dI ?_)));exact a9 (decide (0<Rp.hits r s)) _ _ _ (fun h=>Rp.b0q (by have:=BJ h;omega)) ⟨rfl,rfl,(zD (fun z=>some (aH .i64 z)) (by rw[a3,Rp.a5X])),(zD (fun l=>some (aW (decide (0<Rp.hits r l)))) a3),trivial⟩ rfl rfl
