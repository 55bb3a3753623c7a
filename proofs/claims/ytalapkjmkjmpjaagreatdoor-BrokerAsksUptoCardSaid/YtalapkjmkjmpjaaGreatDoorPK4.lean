/-
  Own texts on the laws of the seat, joined: the logic, and contracts of functions. Conditions: none.
-/
import Derived.Test.YtalapkjmkjmpjaaGreatDoorPK3
import Derived.Test.YtalapkjmkjmpjaaGreatDoorProg
import Derived.Shelf.Strings.Builder1
import Derived.Shelf.Strings.Builder2
import Derived.Shelf.Strings.OnBuilder
import Derived.Shelf.Strings.Trim
import Derived.Shelf.Small.Utf8
import Derived.Shelf.Small.Bits
import Derived.Shelf.Small.Strs
import Derived.Shelf.Small.Wraps
import Derived.Shelf.Strings.BuilderF
import Derived.Shelf.Strings.BuilderK
import Derived.Shelf.Strings.BuilderRune
import Derived.Shelf.Utf8.AppendRune
import Derived.Shelf.Utf8.AppendRunePlain
import Derived.Shelf.Utf8.RuneCount
import Derived.Shelf.Strings.Builder2Cap
import Derived.Shelf.Strconv.Itoa0
import Derived.Shelf.Strings.Search1
import Derived.Shelf.Strings.Search2
import Derived.Shelf.Strings.Search3
import Derived.Shelf.Strings.Cut
import Derived.Shelf.Strings.Count
import Derived.Shelf.LaysM
import Derived.Shelf.Strings.Shaped
import Derived.Shelf.Sort.Plain
import Derived.Shelf.GgClosure.StringsIndexFunc
import Derived.Ground.GgwProg
import Derived.Shelf.GgClosure.StringsIndexFuncTop
import Derived.Shelf.Strings.Prefix
import Derived.Shelf.Strings.Split
import Derived.Shelf.Strings.Fields
import Derived.Shelf.Strings.SplitShaped
import Derived.Shelf.Unicode.Latin
import Derived.Shelf.Unicode.Decode
import Derived.Shelf.Strings.Runes
import Derived.Shelf.Strings.RuneCount
import Derived.Shelf.Strings.IndexAny
import Derived.Shelf.Strings.AsciiSet
import Derived.Shelf.Strings.IndexAnyAll
import Derived.Shelf.Unicode.DecodeSlow
import Derived.Shelf.Unicode.DecodeAny
import Derived.Shelf.Unicode.Is16White
import Derived.Shelf.Unicode.IsSpaceAny
import Derived.Shelf.Unicode.DecodeLast
import Derived.Shelf.Unicode.Is16WhiteD
import Derived.Shelf.Unicode.IsSpaceAnyD
import Derived.Shelf.Strings.FieldsAny
import Derived.Shelf.Strings.FieldsFuncAny
import Derived.Shelf.Unicode.CaseLookup
import Derived.Shelf.Unicode.CaseConvert
import Derived.Shelf.Unicode.CaseTo
import Derived.Shelf.Unicode.CaseLaid
import Derived.Shelf.Strings.MapAny
import Derived.Shelf.Strings.CaseAny
import Derived.Shelf.Unicode.Is16Any
import Derived.Shelf.Unicode.Is32Any
import Derived.Shelf.Unicode.ExclAny
import Derived.Shelf.Strings.FuncGrows
import Derived.Shelf.Strings.FieldsFuncGrows
import Derived.Shelf.Strings.BuilderCap
import Derived.Shelf.Strings.MapGrows
import Derived.Shelf.Slices.Turned
import Derived.Shelf.Slices.Equal
import Derived.Ground.Names2Prog
import Derived.Shelf.Slices.Clone
import Derived.Shelf.Slices.CompactI
import Derived.Shelf.Slices.CompactS
import Derived.Shelf.Slices.SearchI
import Derived.Shelf.Slices.Cells
import Derived.Shelf.Slices.In.SortNone
import Derived.Shelf.Slices.Empties2
import Derived.Ground.SlgnProg
import Derived.Shelf.SlicesE.Clone
set_option linter.all false
set_option maxRecDepth 100000
set_option maxHeartbeats 40000000
open Go.Proofs.Tryz renaming prog -> aA
open Go.Shelf renaming Ren -> aB
open Go.Lib renaming goFieldsP -> aC,fieldsD -> aF,compact -> aG,indexByte -> aI
open Go.Value renaming oneCell' -> aH,int -> aO,string -> aU
open Go.Region renaming ready -> aJ
open Go.Sort renaming ahead -> aK
open Go.Proofs.Builder renaming Extra -> aN
open Bool renaming noConfusion -> aP
open ByteArray renaming empty -> aQ
open Nat renaming blt -> aS
open List renaming replicate -> aT
open Go.Proofs.SlLaysE0 renaming n41 -> aV
open Go.Proofs.Lays renaming n158 -> aW,n156 -> aX,n161 -> aY,n160 -> aZ,n119 -> bC,n106 -> bD,n137 -> bF,n122 -> bG,n219 -> bH,n138 -> bI,n189 -> bJ,n190 -> bK,n157 -> bM,n152 -> bP,n151 -> bQ,n226 -> bT,n153 -> bU,n260 -> bV,n229 -> bW,n230 -> bY,n109 -> bZ,n110 -> cO,n194 -> dA,n99 -> dB
open Go.Proofs.Lays2 renaming n20 -> cZ
namespace Go.Sx
open Go Go.Proofs
structure Wr (A:Prop):Prop where
  w:A
structure Tb (α:Type) (P:Nat→α→Prop) where
  f:Nat→Option α
  h:∀n a,f n=some a→P n a
noncomputable def TL {α:Type} {P:Nat→α→Prop} (k:Nat) {a:α} (h:P k a):Tb α P:=⟨fun n=>bif Nat.beq n k then some a else none,fun n b e=>by
 cases hk:Nat.beq n k with
 |true=>rw[hk]at e;cases e;rw[Nat.eq_of_beq_eq_true hk];exact h
 |false=>rw[hk]at e;cases e⟩
noncomputable def TN {α:Type} {P:Nat→α→Prop} (k:Nat) (a b:Tb α P):Tb α P:=⟨fun n=>bif Nat.ble n k then a.f n else b.f n,fun n c e=>by
 cases hk:Nat.ble n k with
 |true=>rw[hk]at e;exact a.h n c e
 |false=>rw[hk]at e;exact b.h n c e⟩
noncomputable def tbU:Tb TypeDesc (fun n a=>Go.Proofs.Tryz.prog.underlying n=some a):=TN 192 (TN 78 (TN 42 (TN 21 (TN 4 (TN 0 (TL 0 Tryz.underlying0) (TN 3 (TL 3 Tryz.underlying3) (TL 4 Tryz.underlying4))) (TN 9 (TN 5 (TL 5 Tryz.underlying5) (TL 9 Tryz.underlying9)) (TN 20 (TL 20 Tryz.underlying20) (TL 21 Tryz.underlying21)))) (TN 27 (TN 24 (TN 22 (TL 22 Tryz.underlying22) (TL 24 Tryz.underlying24)) (TN 26 (TL 26 Tryz.underlying26) (TL 27 Tryz.underlying27))) (TN 31 (TN 30 (TL 30 Tryz.underlying30) (TL 31 Tryz.underlying31)) (TN 39 (TL 39 Tryz.underlying39) (TL 42 Tryz.underlying42))))) (TN 56 (TN 49 (TN 45 (TN 43 (TL 43 Tryz.underlying43) (TL 45 Tryz.underlying45)) (TN 47 (TL 47 Tryz.underlying47) (TL 49 Tryz.underlying49))) (TN 52 (TN 50 (TL 50 Tryz.underlying50) (TL 52 Tryz.underlying52)) (TN 53 (TL 53 Tryz.underlying53) (TL 56 Tryz.underlying56)))) (TN 64 (TN 61 (TN 57 (TL 57 Tryz.underlying57) (TL 61 Tryz.underlying61)) (TN 63 (TL 63 Tryz.underlying63) (TL 64 Tryz.underlying64))) (TN 73 (TN 71 (TL 71 Tryz.underlying71) (TL 73 Tryz.underlying73)) (TN 76 (TL 76 Tryz.underlying76) (TL 78 Tryz.underlying78)))))) (TN 124 (TN 98 (TN 86 (TN 82 (TL 82 Tryz.underlying82) (TN 84 (TL 84 Tryz.underlying84) (TL 86 Tryz.underlying86))) (TN 90 (TN 89 (TL 89 Tryz.underlying89) (TL 90 Tryz.underlying90)) (TN 92 (TL 92 Tryz.underlying92) (TL 98 Tryz.underlying98)))) (TN 111 (TN 101 (TN 99 (TL 99 Tryz.underlying99) (TL 101 Tryz.underlying101)) (TN 109 (TL 109 Tryz.underlying109) (TL 111 Tryz.underlying111))) (TN 118 (TN 115 (TL 115 Tryz.underlying115) (TL 118 Tryz.underlying118)) (TN 121 (TL 121 Tryz.underlying121) (TL 124 Tryz.underlying124))))) (TN 159 (TN 140 (TN 130 (TN 127 (TL 127 Tryz.underlying127) (TL 130 Tryz.underlying130)) (TN 138 (TL 138 Tryz.underlying138) (TL 140 Tryz.underlying140))) (TN 146 (TN 142 (TL 142 Tryz.underlying142) (TL 146 Tryz.underlying146)) (TN 154 (TL 154 Tryz.underlying154) (TL 159 Tryz.underlying159)))) (TN 172 (TN 163 (TN 161 (TL 161 Tryz.underlying161) (TL 163 Tryz.underlying163)) (TN 166 (TL 166 Tryz.underlying166) (TL 172 Tryz.underlying172))) (TN 181 (TN 176 (TL 176 Tryz.underlying176) (TL 181 Tryz.underlying181)) (TN 189 (TL 189 Tryz.underlying189) (TL 192 Tryz.underlying192))))))) (TN 340 (TN 268 (TN 229 (TN 216 (TN 195 (TL 195 Tryz.underlying195) (TN 210 (TL 210 Tryz.underlying210) (TL 216 Tryz.underlying216))) (TN 221 (TN 218 (TL 218 Tryz.underlying218) (TL 221 Tryz.underlying221)) (TN 223 (TL 223 Tryz.underlying223) (TL 229 Tryz.underlying229)))) (TN 248 (TN 237 (TN 230 (TL 230 Tryz.underlying230) (TL 237 Tryz.underlying237)) (TN 239 (TL 239 Tryz.underlying239) (TL 248 Tryz.underlying248))) (TN 260 (TN 252 (TL 252 Tryz.underlying252) (TL 260 Tryz.underlying260)) (TN 263 (TL 263 Tryz.underlying263) (TL 268 Tryz.underlying268))))) (TN 292 (TN 280 (TN 275 (TN 273 (TL 273 Tryz.underlying273) (TL 275 Tryz.underlying275)) (TN 277 (TL 277 Tryz.underlying277) (TL 280 Tryz.underlying280))) (TN 288 (TN 281 (TL 281 Tryz.underlying281) (TL 288 Tryz.underlying288)) (TN 289 (TL 289 Tryz.underlying289) (TL 292 Tryz.underlying292)))) (TN 312 (TN 299 (TN 295 (TL 295 Tryz.underlying295) (TL 299 Tryz.underlying299)) (TN 308 (TL 308 Tryz.underlying308) (TL 312 Tryz.underlying312))) (TN 325 (TN 315 (TL 315 Tryz.underlying315) (TL 325 Tryz.underlying325)) (TN 336 (TL 336 Tryz.underlying336) (TL 340 Tryz.underlying340)))))) (TN 423 (TN 399 (TN 359 (TN 344 (TL 344 Tryz.underlying344) (TN 355 (TL 355 Tryz.underlying355) (TL 359 Tryz.underlying359))) (TN 373 (TN 372 (TL 372 Tryz.underlying372) (TL 373 Tryz.underlying373)) (TN 386 (TL 386 Tryz.underlying386) (TL 399 Tryz.underlying399)))) (TN 407 (TN 402 (TN 401 (TL 401 Tryz.underlying401) (TL 402 Tryz.underlying402)) (TN 404 (TL 404 Tryz.underlying404) (TL 407 Tryz.underlying407))) (TN 418 (TN 409 (TL 409 Tryz.underlying409) (TL 418 Tryz.underlying418)) (TN 421 (TL 421 Tryz.underlying421) (TL 423 Tryz.underlying423))))) (TN 475 (TN 434 (TN 428 (TN 424 (TL 424 Tryz.underlying424) (TL 428 Tryz.underlying428)) (TN 429 (TL 429 Tryz.underlying429) (TL 434 Tryz.underlying434))) (TN 455 (TN 453 (TL 453 Tryz.underlying453) (TL 455 Tryz.underlying455)) (TN 471 (TL 471 Tryz.underlying471) (TL 475 Tryz.underlying475)))) (TN 483 (TN 480 (TN 479 (TL 479 Tryz.underlying479) (TL 480 Tryz.underlying480)) (TN 482 (TL 482 Tryz.underlying482) (TL 483 Tryz.underlying483))) (TN 488 (TN 485 (TL 485 Tryz.underlying485) (TL 488 Tryz.underlying488)) (TN 491 (TL 491 Tryz.underlying491) (TL 492 Tryz.underlying492)))))))
noncomputable def tbS:Tb Nat (fun n a=>∀w,(sizeOf n).run Go.Proofs.Tryz.prog w= .ok a w):=TN 216 (TN 73 (TN 43 (TN 20 (TN 4 (TN 0 (TL 0 Tryz.sizeOf0) (TN 3 (TL 3 Tryz.sizeOf3) (TL 4 Tryz.sizeOf4))) (TN 5 (TL 5 Tryz.sizeOf5) (TN 9 (TL 9 Tryz.sizeOf9) (TL 20 Tryz.sizeOf20)))) (TN 30 (TN 21 (TL 21 Tryz.sizeOf21) (TN 24 (TL 24 Tryz.sizeOf24) (TL 30 Tryz.sizeOf30))) (TN 39 (TN 31 (TL 31 Tryz.sizeOf31) (TL 39 Tryz.sizeOf39)) (TN 42 (TL 42 Tryz.sizeOf42) (TL 43 Tryz.sizeOf43))))) (TN 53 (TN 49 (TN 45 (TL 45 Tryz.sizeOf45) (TN 47 (TL 47 Tryz.sizeOf47) (TL 49 Tryz.sizeOf49))) (TN 50 (TL 50 Tryz.sizeOf50) (TN 52 (TL 52 Tryz.sizeOf52) (TL 53 Tryz.sizeOf53)))) (TN 61 (TN 56 (TL 56 Tryz.sizeOf56) (TN 58 (TL 58 Tryz.sizeOf58) (TL 61 Tryz.sizeOf61))) (TN 64 (TN 63 (TL 63 Tryz.sizeOf63) (TL 64 Tryz.sizeOf64)) (TN 71 (TL 71 Tryz.sizeOf71) (TL 73 Tryz.sizeOf73)))))) (TN 118 (TN 92 (TN 84 (TN 78 (TL 78 Tryz.sizeOf78) (TN 82 (TL 82 Tryz.sizeOf82) (TL 84 Tryz.sizeOf84))) (TN 89 (TL 89 Tryz.sizeOf89) (TN 90 (TL 90 Tryz.sizeOf90) (TL 92 Tryz.sizeOf92)))) (TN 101 (TN 98 (TL 98 Tryz.sizeOf98) (TN 99 (TL 99 Tryz.sizeOf99) (TL 101 Tryz.sizeOf101))) (TN 111 (TN 109 (TL 109 Tryz.sizeOf109) (TL 111 Tryz.sizeOf111)) (TN 115 (TL 115 Tryz.sizeOf115) (TL 118 Tryz.sizeOf118))))) (TN 159 (TN 138 (TN 121 (TL 121 Tryz.sizeOf121) (TN 127 (TL 127 Tryz.sizeOf127) (TL 138 Tryz.sizeOf138))) (TN 154 (TN 140 (TL 140 Tryz.sizeOf140) (TL 154 Tryz.sizeOf154)) (TN 157 (TL 157 Tryz.sizeOf157) (TL 159 Tryz.sizeOf159)))) (TN 181 (TN 161 (TL 161 Tryz.sizeOf161) (TN 176 (TL 176 Tryz.sizeOf176) (TL 181 Tryz.sizeOf181))) (TN 195 (TN 192 (TL 192 Tryz.sizeOf192) (TL 195 Tryz.sizeOf195)) (TN 210 (TL 210 Tryz.sizeOf210) (TL 216 Tryz.sizeOf216))))))) (TN 344 (TN 277 (TN 230 (TN 221 (TN 218 (TL 218 Tryz.sizeOf218) (TN 219 (TL 219 Tryz.sizeOf219) (TL 221 Tryz.sizeOf221))) (TN 223 (TL 223 Tryz.sizeOf223) (TN 229 (TL 229 Tryz.sizeOf229) (TL 230 Tryz.sizeOf230)))) (TN 252 (TN 237 (TL 237 Tryz.sizeOf237) (TN 239 (TL 239 Tryz.sizeOf239) (TL 252 Tryz.sizeOf252))) (TN 268 (TN 263 (TL 263 Tryz.sizeOf263) (TL 268 Tryz.sizeOf268)) (TN 275 (TL 275 Tryz.sizeOf275) (TL 277 Tryz.sizeOf277))))) (TN 308 (TN 288 (TN 280 (TL 280 Tryz.sizeOf280) (TN 281 (TL 281 Tryz.sizeOf281) (TL 288 Tryz.sizeOf288))) (TN 289 (TL 289 Tryz.sizeOf289) (TN 292 (TL 292 Tryz.sizeOf292) (TL 308 Tryz.sizeOf308)))) (TN 330 (TN 312 (TL 312 Tryz.sizeOf312) (TN 325 (TL 325 Tryz.sizeOf325) (TL 330 Tryz.sizeOf330))) (TN 336 (TN 334 (TL 334 Tryz.sizeOf334) (TL 336 Tryz.sizeOf336)) (TN 338 (TL 338 Tryz.sizeOf338) (TL 344 Tryz.sizeOf344)))))) (TN 428 (TN 402 (TN 373 (TN 355 (TL 355 Tryz.sizeOf355) (TN 372 (TL 372 Tryz.sizeOf372) (TL 373 Tryz.sizeOf373))) (TN 386 (TL 386 Tryz.sizeOf386) (TN 401 (TL 401 Tryz.sizeOf401) (TL 402 Tryz.sizeOf402)))) (TN 409 (TN 404 (TL 404 Tryz.sizeOf404) (TN 407 (TL 407 Tryz.sizeOf407) (TL 409 Tryz.sizeOf409))) (TN 421 (TN 418 (TL 418 Tryz.sizeOf418) (TL 421 Tryz.sizeOf421)) (TN 423 (TL 423 Tryz.sizeOf423) (TL 428 Tryz.sizeOf428))))) (TN 479 (TN 453 (TN 429 (TL 429 Tryz.sizeOf429) (TN 434 (TL 434 Tryz.sizeOf434) (TL 453 Tryz.sizeOf453))) (TN 471 (TN 455 (TL 455 Tryz.sizeOf455) (TL 471 Tryz.sizeOf471)) (TN 475 (TL 475 Tryz.sizeOf475) (TL 479 Tryz.sizeOf479)))) (TN 483 (TN 480 (TL 480 Tryz.sizeOf480) (TN 482 (TL 482 Tryz.sizeOf482) (TL 483 Tryz.sizeOf483))) (TN 488 (TN 485 (TL 485 Tryz.sizeOf485) (TL 488 Tryz.sizeOf488)) (TN 491 (TL 491 Tryz.sizeOf491) (TL 492 Tryz.sizeOf492)))))))
noncomputable def tbG:Tb Bool (fun n a=>∀w,(isAgg n).run Go.Proofs.Tryz.prog w= .ok a w):=TN 181 (TN 64 (TN 39 (TN 20 (TN 4 (TN 0 (TL 0 Tryz.isAgg0) (TN 3 (TL 3 Tryz.isAgg3) (TL 4 Tryz.isAgg4))) (TN 5 (TL 5 Tryz.isAgg5) (TN 9 (TL 9 Tryz.isAgg9) (TL 20 Tryz.isAgg20)))) (TN 26 (TN 21 (TL 21 Tryz.isAgg21) (TN 24 (TL 24 Tryz.isAgg24) (TL 26 Tryz.isAgg26))) (TN 30 (TL 30 Tryz.isAgg30) (TN 31 (TL 31 Tryz.isAgg31) (TL 39 Tryz.isAgg39))))) (TN 50 (TN 45 (TN 42 (TL 42 Tryz.isAgg42) (TN 43 (TL 43 Tryz.isAgg43) (TL 45 Tryz.isAgg45))) (TN 47 (TL 47 Tryz.isAgg47) (TN 49 (TL 49 Tryz.isAgg49) (TL 50 Tryz.isAgg50)))) (TN 56 (TN 52 (TL 52 Tryz.isAgg52) (TN 53 (TL 53 Tryz.isAgg53) (TL 56 Tryz.isAgg56))) (TN 58 (TL 58 Tryz.isAgg58) (TN 61 (TL 61 Tryz.isAgg61) (TL 64 Tryz.isAgg64)))))) (TN 109 (TN 89 (TN 78 (TN 71 (TL 71 Tryz.isAgg71) (TN 73 (TL 73 Tryz.isAgg73) (TL 78 Tryz.isAgg78))) (TN 82 (TL 82 Tryz.isAgg82) (TN 84 (TL 84 Tryz.isAgg84) (TL 89 Tryz.isAgg89)))) (TN 98 (TN 90 (TL 90 Tryz.isAgg90) (TN 92 (TL 92 Tryz.isAgg92) (TL 98 Tryz.isAgg98))) (TN 99 (TL 99 Tryz.isAgg99) (TN 101 (TL 101 Tryz.isAgg101) (TL 109 Tryz.isAgg109))))) (TN 138 (TN 118 (TN 111 (TL 111 Tryz.isAgg111) (TN 115 (TL 115 Tryz.isAgg115) (TL 118 Tryz.isAgg118))) (TN 121 (TL 121 Tryz.isAgg121) (TN 127 (TL 127 Tryz.isAgg127) (TL 138 Tryz.isAgg138)))) (TN 157 (TN 140 (TL 140 Tryz.isAgg140) (TN 146 (TL 146 Tryz.isAgg146) (TL 157 Tryz.isAgg157))) (TN 166 (TN 159 (TL 159 Tryz.isAgg159) (TL 166 Tryz.isAgg166)) (TN 176 (TL 176 Tryz.isAgg176) (TL 181 Tryz.isAgg181))))))) (TN 338 (TN 239 (TN 219 (TN 210 (TN 192 (TL 192 Tryz.isAgg192) (TN 195 (TL 195 Tryz.isAgg195) (TL 210 Tryz.isAgg210))) (TN 216 (TL 216 Tryz.isAgg216) (TN 218 (TL 218 Tryz.isAgg218) (TL 219 Tryz.isAgg219)))) (TN 229 (TN 221 (TL 221 Tryz.isAgg221) (TN 223 (TL 223 Tryz.isAgg223) (TL 229 Tryz.isAgg229))) (TN 230 (TL 230 Tryz.isAgg230) (TN 237 (TL 237 Tryz.isAgg237) (TL 239 Tryz.isAgg239))))) (TN 281 (TN 275 (TN 263 (TL 263 Tryz.isAgg263) (TN 268 (TL 268 Tryz.isAgg268) (TL 275 Tryz.isAgg275))) (TN 277 (TL 277 Tryz.isAgg277) (TN 280 (TL 280 Tryz.isAgg280) (TL 281 Tryz.isAgg281)))) (TN 292 (TN 288 (TL 288 Tryz.isAgg288) (TN 289 (TL 289 Tryz.isAgg289) (TL 292 Tryz.isAgg292))) (TN 312 (TN 308 (TL 308 Tryz.isAgg308) (TL 312 Tryz.isAgg312)) (TN 325 (TL 325 Tryz.isAgg325) (TL 338 Tryz.isAgg338)))))) (TN 429 (TN 402 (TN 372 (TN 344 (TL 344 Tryz.isAgg344) (TN 355 (TL 355 Tryz.isAgg355) (TL 372 Tryz.isAgg372))) (TN 373 (TL 373 Tryz.isAgg373) (TN 386 (TL 386 Tryz.isAgg386) (TL 402 Tryz.isAgg402)))) (TN 409 (TN 404 (TL 404 Tryz.isAgg404) (TN 407 (TL 407 Tryz.isAgg407) (TL 409 Tryz.isAgg409))) (TN 418 (TL 418 Tryz.isAgg418) (TN 428 (TL 428 Tryz.isAgg428) (TL 429 Tryz.isAgg429))))) (TN 479 (TN 455 (TN 434 (TL 434 Tryz.isAgg434) (TN 453 (TL 453 Tryz.isAgg453) (TL 455 Tryz.isAgg455))) (TN 471 (TL 471 Tryz.isAgg471) (TN 475 (TL 475 Tryz.isAgg475) (TL 479 Tryz.isAgg479)))) (TN 483 (TN 480 (TL 480 Tryz.isAgg480) (TN 482 (TL 482 Tryz.isAgg482) (TL 483 Tryz.isAgg483))) (TN 488 (TN 485 (TL 485 Tryz.isAgg485) (TL 488 Tryz.isAgg488)) (TN 491 (TL 491 Tryz.isAgg491) (TL 492 Tryz.isAgg492)))))))
noncomputable def tbZ:Tb Value (fun n a=>∀w,(zeroValue n).run Go.Proofs.Tryz.prog w= .ok a w):=TN 218 (TN 86 (TN 42 (TN 9 (TN 3 (TN 0 (TL 0 Tryz.zeroValue0) (TL 3 Tryz.zeroValue3)) (TN 4 (TL 4 Tryz.zeroValue4) (TN 5 (TL 5 Tryz.zeroValue5) (TL 9 Tryz.zeroValue9)))) (TN 30 (TN 20 (TL 20 Tryz.zeroValue20) (TN 21 (TL 21 Tryz.zeroValue21) (TL 30 Tryz.zeroValue30))) (TN 31 (TL 31 Tryz.zeroValue31) (TN 39 (TL 39 Tryz.zeroValue39) (TL 42 Tryz.zeroValue42))))) (TN 56 (TN 50 (TN 45 (TL 45 Tryz.zeroValue45) (TN 47 (TL 47 Tryz.zeroValue47) (TL 50 Tryz.zeroValue50))) (TN 52 (TL 52 Tryz.zeroValue52) (TN 53 (TL 53 Tryz.zeroValue53) (TL 56 Tryz.zeroValue56)))) (TN 64 (TN 58 (TL 58 Tryz.zeroValue58) (TN 63 (TL 63 Tryz.zeroValue63) (TL 64 Tryz.zeroValue64))) (TN 73 (TL 73 Tryz.zeroValue73) (TN 78 (TL 78 Tryz.zeroValue78) (TL 86 Tryz.zeroValue86)))))) (TN 142 (TN 115 (TN 98 (TN 89 (TL 89 Tryz.zeroValue89) (TN 92 (TL 92 Tryz.zeroValue92) (TL 98 Tryz.zeroValue98))) (TN 109 (TL 109 Tryz.zeroValue109) (TN 111 (TL 111 Tryz.zeroValue111) (TL 115 Tryz.zeroValue115)))) (TN 125 (TN 118 (TL 118 Tryz.zeroValue118) (TN 124 (TL 124 Tryz.zeroValue124) (TL 125 Tryz.zeroValue125))) (TN 127 (TL 127 Tryz.zeroValue127) (TN 130 (TL 130 Tryz.zeroValue130) (TL 142 Tryz.zeroValue142))))) (TN 181 (TN 161 (TN 154 (TL 154 Tryz.zeroValue154) (TN 159 (TL 159 Tryz.zeroValue159) (TL 161 Tryz.zeroValue161))) (TN 163 (TL 163 Tryz.zeroValue163) (TN 176 (TL 176 Tryz.zeroValue176) (TL 181 Tryz.zeroValue181)))) (TN 195 (TN 189 (TL 189 Tryz.zeroValue189) (TN 192 (TL 192 Tryz.zeroValue192) (TL 195 Tryz.zeroValue195))) (TN 210 (TL 210 Tryz.zeroValue210) (TN 216 (TL 216 Tryz.zeroValue216) (TL 218 Tryz.zeroValue218))))))) (TN 355 (TN 275 (TN 237 (TN 223 (TN 219 (TL 219 Tryz.zeroValue219) (TN 221 (TL 221 Tryz.zeroValue221) (TL 223 Tryz.zeroValue223))) (TN 229 (TL 229 Tryz.zeroValue229) (TN 230 (TL 230 Tryz.zeroValue230) (TL 237 Tryz.zeroValue237)))) (TN 260 (TN 239 (TL 239 Tryz.zeroValue239) (TN 252 (TL 252 Tryz.zeroValue252) (TL 260 Tryz.zeroValue260))) (TN 263 (TL 263 Tryz.zeroValue263) (TN 268 (TL 268 Tryz.zeroValue268) (TL 275 Tryz.zeroValue275))))) (TN 292 (TN 281 (TN 277 (TL 277 Tryz.zeroValue277) (TN 280 (TL 280 Tryz.zeroValue280) (TL 281 Tryz.zeroValue281))) (TN 287 (TL 287 Tryz.zeroValue287) (TN 289 (TL 289 Tryz.zeroValue289) (TL 292 Tryz.zeroValue292)))) (TN 325 (TN 308 (TL 308 Tryz.zeroValue308) (TN 312 (TL 312 Tryz.zeroValue312) (TL 325 Tryz.zeroValue325))) (TN 340 (TL 340 Tryz.zeroValue340) (TN 344 (TL 344 Tryz.zeroValue344) (TL 355 Tryz.zeroValue355)))))) (TN 434 (TN 404 (TN 386 (TN 372 (TL 372 Tryz.zeroValue372) (TN 373 (TL 373 Tryz.zeroValue373) (TL 386 Tryz.zeroValue386))) (TN 401 (TL 401 Tryz.zeroValue401) (TN 402 (TL 402 Tryz.zeroValue402) (TL 404 Tryz.zeroValue404)))) (TN 423 (TN 407 (TL 407 Tryz.zeroValue407) (TN 409 (TL 409 Tryz.zeroValue409) (TL 423 Tryz.zeroValue423))) (TN 428 (TL 428 Tryz.zeroValue428) (TN 429 (TL 429 Tryz.zeroValue429) (TL 434 Tryz.zeroValue434))))) (TN 480 (TN 471 (TN 453 (TL 453 Tryz.zeroValue453) (TN 455 (TL 455 Tryz.zeroValue455) (TL 471 Tryz.zeroValue471))) (TN 475 (TL 475 Tryz.zeroValue475) (TN 479 (TL 479 Tryz.zeroValue479) (TL 480 Tryz.zeroValue480)))) (TN 485 (TN 482 (TL 482 Tryz.zeroValue482) (TN 483 (TL 483 Tryz.zeroValue483) (TL 485 Tryz.zeroValue485))) (TN 488 (TL 488 Tryz.zeroValue488) (TN 491 (TL 491 Tryz.zeroValue491) (TL 492 Tryz.zeroValue492)))))))
theorem uU{T d A}(h:tbU.f T=some d)(e:d=A):Go.Proofs.Tryz.prog.underlying T=some A:=e▸tbU.h T d h
theorem uS{T n A}(h:tbS.f T=some n)(e:n=A):∀w,(sizeOf T).run Go.Proofs.Tryz.prog w= .ok A w:=e▸tbS.h T n h
theorem uG{T b A}(h:tbG.f T=some b)(e:b=A):∀w,(isAgg T).run Go.Proofs.Tryz.prog w= .ok A w:=e▸tbG.h T b h
theorem uZ{T v A}(h:tbZ.f T=some v)(e:v=A):∀w,(zeroValue T).run Go.Proofs.Tryz.prog w= .ok A w:=e▸tbZ.h T v h
theorem bkA{S:World→Prop}{b o}(h:yX S b o:=by
 first
 |(with_reducible show yX (SS _ _) _ _);first|exact yX.atR atA|exact yX.YR (by assumption)|exact yX.at 0 rfl|exact yX.at 1 rfl|exact yX.at 2 rfl
 |(with_reducible show yX (SC _ _ _) _ _);first|exact yX.atCR atA|exact yX.RU (by assumption)|exact yX.NI 0 rfl|exact yX.NI 1 rfl):yX S b o:=h
structure Ch (H:HL) (b:Nat) (o o':Obj) (H':HL):Prop where
  h:∃i,H[i]?=some (b,o)∧BL H i (b,o') H'
theorem Ch.z{b x o o' r}(h:x=o):Ch ((b,x)::r) b o o' ((b,o')::r):=⟨⟨0,h▸rfl,BL.z⟩⟩
theorem Ch.s{b o o' q r A}(h:Ch r b o o' A):Ch (q::r) b o o' (q::A):=let ⟨⟨i,h1,h2⟩⟩:=h;⟨⟨i+1,h1,BL.s h2⟩⟩
theorem chA{H H' b o o'}(h:Ch H b o o' H':=by first|(with_reducible refine Ch.z ?_;exact rfl)|(with_reducible apply Ch.s;exact chA)|(refine Ch.z ?_;exact rfl)|(apply Ch.s;exact chA)):Ch H b o o' H':=h
theorem b1b{A o e I H C Q x y T t b off cs cs' vs v H' n}(O:o.op= .store T x y)(Z:o.dst=none)(hx:ev e x=some (ptr b off))(hy:ev e y=some v)
 (hv:v.cells=vs.toArray)(h1:vs.all aH=true)(G:∀w,(sizeOf T).run A.P w= .ok n w)(M:vs.length=n)(hH:Ch H b (yV t cs) (yV t cs') H')(N:AX cs off vs cs')
 (k:C e I H'):EZ A Q o e I H C:=let ⟨⟨i,h2,h3⟩⟩:=hH;DV i O Z hx hy hv h1 G M h2 N h3 k
theorem OB{α:Type}{a b:α}(h:a=b:=by first|exact rfl|assumption):a=b:=h
theorem eqB{a b:Bool}(h:a=b:=by first|exact rfl|assumption|exact congrArg not (by assumption)):a=b:=h
theorem ES{vs cs n}(h:DC vs n cs:=by
 first|with_reducible exact DC.none|(with_reducible show DC (Value.agg _::_) _ _;apply DC.agg;exact rfl;exact ES)|(apply DC.one;exact rfl;exact ES)|(apply DC.agg;exact rfl;exact ES)):DC vs n cs:=h
theorem lsA{α:Type}{l xs l':List α}{i}(h:AX l i xs l':=by
 first|with_reducible exact AX.z|(apply AX.c;exact lsA)|(apply AX.s;exact lsA)):AX l i xs l':=h
theorem ceA{v:Value}{vs:List Value}(h:v.cells=vs.toArray:=by first|with_reducible exact a1B _ _|exact rfl):v.cells=vs.toArray:=h
theorem onA{vs:List Value}(h:vs.all Value.oneCell'=true:=by first|with_reducible exact a9i _ _|exact rfl):vs.all aH=true:=h
theorem UW.mk'{G I A H Z}(h1:HSub A H)(h2:CSub Z H)(h3:Le G I):UW G A Z I H:=⟨h1,h2,h3⟩
theorem CP{G I A H Z}(h:UW G A Z I H:=by first|assumption|exact UW.mk' (by repeat first|exact HSub.n|refine HSub.c 0 rfl ?_|refine HSub.c 1 rfl ?_|refine HSub.c 2 rfl ?_|refine HSub.c 3 rfl ?_|refine HSub.c 4 rfl ?_|refine HSub.c 5 rfl ?_) (by repeat first|exact CSub.n|refine CSub.c 0 rfl rfl ?_|refine CSub.c 1 rfl rfl ?_) (by repeat first|exact Le.refl _|assumption|refine Le.trans ?_ (by assumption))):UW G A Z I H:=h
def opk:Op→Nat
 | .move _=>0
 | .assign _=>1
 | .pick .. =>2
 | .alloc _=>3
 | .box .. =>4
 | .build .. =>5
 | .buildSlice .. =>6
 | .load .. =>7
 | .store .. =>8
 | .nilCheck _=>9
 | .unOp .. =>10
 | .convert .. =>11
 | .makeInterface .. =>12
 | .makeFunc .. =>13
 | .fieldAddr .. =>14
 | .indexAddr .. =>15
 | .extract .. =>16
 | .call c=>match c.callee with
   | .builtin _=>17
   |_=>30
 | .binOp b .. =>match b with
   | .add=>20
   | .sub=>21
   | .mul=>22
   | .rem=>23
   | .eql=>24
   | .neq=>25
   | .lss=>26
   | .leq=>27
   | .gtr=>28
   | .geq=>29
   |_=>30
 |_=>30
def opc (o:Oper):Nat:=match o.guard with
 |some _=>1
 | none=>match opk o.op with
   |3=>3
   |4=>3
   |6=>3
   |8=>3
   |30=>4
   |_=>2
def jk:List Oper→Nat
 |[]=>0
 |o::_=>opc o
theorem QY k {A o e}{S:World→Prop}{v}(_:opk o.op=k)(h:BN A o e S v):BN A o e S v:=h
theorem gdJ k {G Q A l e I H}(_:jk l=k)(h:J G Q A l e I H):J G Q A l e I H:=h
theorem gdO k {A Q o e I H C}(_:opk o.op=k)(h:EZ A Q o e I H C):EZ A Q o e I H C:=h
theorem J.zy{A Q G l e I H o d v}(M:o.guard=none)(N:o.dst=some d)(O:aS d A.n=true)(Z:BN A o e (SS I H) v)(k:J A Q G l ((d,v)::e) I H):J A Q G (o::l) e I H:=J.z Z k M N O
theorem yA{A o e}{S:World→Prop}{v}(h:BN A o e S v:=by first
 |(apply QY 0;exact rfl;exact zS)
 |(apply QY 7;exact rfl;first|exact BU rfl rfl (uG rfl rfl) (by first|exact bkA) (by first|exact rfl)|exact a4w rfl rfl (uG rfl rfl) (uS rfl rfl) (by first|exact bkA) (by first|exact rfl) (by first|exact rfl))
 |(apply QY 14;exact rfl;exact a1h rfl rfl (uU rfl rfl) (by first|exact rfl) (uS rfl rfl) (by first|exact rfl))
 |(apply QY 17;exact rfl;first|exact QT rfl rfl (uU rfl rfl)|exact a5r rfl rfl (uU rfl rfl))
 |(apply QY 1;exact rfl;exact BI)
 |(apply QY 26;exact rfl;exact a8P rfl rfl rfl)
 |(apply QY 20;exact rfl;first|exact FM rfl rfl rfl (IJ (by omega))|exact FM rfl rfl rfl (d1O (by omega)))
 |(apply QY 16;exact rfl;exact JV rfl rfl rfl)
 |(apply QY 9;exact rfl;exact ET)
 |(apply QY 2;exact rfl;first|exact MR rfl rfl (by first|exact OB) (by first|exact rfl)|exact SN rfl rfl (by first|exact OB) (by first|exact rfl))
 |(apply QY 24;exact rfl;first|exact QO rfl rfl rfl|exact b2m rfl rfl rfl|exact c0U _ rfl rfl rfl (uU rfl rfl) (by kernel_rfl)|exact b9a rfl rfl rfl (uU rfl rfl)|exact b6q _ rfl rfl rfl (uU rfl rfl)|exact c3E _ rfl rfl rfl (uU rfl rfl))
 |(apply QY 25;exact rfl;first|exact a5I rfl rfl rfl|exact b2x rfl rfl rfl|exact yl_neqBool rfl rfl rfl (uU rfl rfl)|exact b6N _ rfl rfl rfl (uU rfl rfl)|exact yl_neqMap _ rfl rfl rfl (uU rfl rfl))
 |(apply QY 29;exact rfl;exact d0w rfl rfl rfl)
 |(apply QY 27;exact rfl;exact d0Y rfl rfl rfl)
 |(apply QY 28;exact rfl;exact b5L rfl rfl rfl)
 |(apply QY 10;exact rfl;exact a8m rfl rfl)
 |(apply QY 15;exact rfl;exact JO rfl rfl rfl (uU rfl rfl) (uS rfl rfl) (by decide) (by decide) (by first|exact rfl))
 |(apply QY 5;exact rfl;first|exact zL rfl rfl (uZ rfl rfl) (by first|exact rfl) (uU rfl rfl) (plA (by first|exact plB)) (by first|exact lbA)|exact c4e rfl rfl (uZ rfl rfl) (by first|exact rfl) (uU rfl rfl) (uS rfl rfl) (by first|exact rfl))
 |(apply QY 11;exact rfl;first|exact c3k _ rfl rfl (uU rfl rfl) (uU rfl rfl) (uU rfl rfl) (by first|exact bkA) (by first|exact rfl)|exact b8N rfl rfl (uU rfl rfl) (uU rfl rfl)|exact c0F rfl rfl (uU rfl rfl) (uU rfl rfl))
 |(apply QY 21;exact rfl;exact VG rfl rfl rfl (IJ (by omega)))
 |(apply QY 23;exact rfl;first|exact c2K rfl rfl rfl (by decide)|exact c2K rfl rfl rfl (by omega))
 |(apply QY 22;exact rfl;exact a0o rfl rfl rfl (IJ (by omega)))
 |(apply QY 13;exact rfl;exact a6K rfl rfl rfl)
 |(apply QY 12;exact rfl;exact a4S rfl rfl (uU rfl rfl) rfl)):BN A o e S v:=h
section
variable {cx:Cx} {Q:Qt} {e:Env} {I I1:Heap} {H A:HL} {Z:CL} {z fuel:Nat} {listed:Array Bool} {ops:Array Oper} {l:List Oper} {o:Oper}
theorem J.spG{j d A b}(M:o.guard=some (j,A))(N:(ops[j]?).bind (·.dst)=some d)(G:eg e d=some (.bool b))(h1:b=true→J cx Q ops (o::l) e I H)(h0:b=false→J cx Q ops (o::l) e I H):J cx Q ops (o::l) e I H:=J.split d G h1 h0
theorem Cj.cT{c x y b}(A:ev e c=some (.bool b))(G:b=true)(h1:Cj cx Q x e I H):Cj cx Q (.cond c x y) e I H:=Cj.cond A (fun _=>h1) (fun h=>aP (G.symm.trans h))
theorem Cj.cF{c x y b}(A:ev e c=some (.bool b))(G:b=false)(h1:Cj cx Q y e I H):Cj cx Q (.cond c x y) e I H:=Cj.cond A (fun h=>aP (G.symm.trans h)) (fun _=>h1)
def a2J:Nat→List Bool→Nat→Option Nat
 |_,[],_=>none
 |s,true::r,n=>a2J s r (n+1)
 |0,false::_,n=>some n
 |s+1,false::r,n=>a2J s r (n+1)
def d1H (e:Env):Op→Bool
 | .move x=>(ev e x).isSome
 | .assign x=>(ev e x).isSome
 | .pick x y z=>(ev e x).isSome && ((ev e y).isSome && (ev e z).isSome)
 | .load _ x=>(ev e x).isSome
 | .nilCheck x=>(ev e x).isSome
 | .binOp _ _ x y _=>(ev e x).isSome && (ev e y).isSome
 | .unOp _ _ x=>(ev e x).isSome
 | .convert _ _ x=>(ev e x).isSome
 | .makeInterface _ x=>(ev e x).isSome
 | .fieldAddr _ x _=>(ev e x).isSome
 | .indexAddr _ x y=>(ev e x).isSome && (ev e y).isSome
 | .extract x _=>(ev e x).isSome
 | .build _ ps=>ps.toList.all fun p=>(ev e p.2).isSome
 | .call c=>c.args.toList.all fun x=>(ev e x).isSome
 |_=>true
def opd (e:Env) (o:Oper):Nat:=match opc o with
 |2=>bif d1H e o.op then 2 else 5
 |k=>k
def ak (s:Nat) (l:List Oper) (listed:Array Bool) (e:Env):Nat:=match a2J s listed.toList 0 with
 |none=>0
 | some i=>match l.toArray[i]? with
   |none=>9
   |some o=>opd e o
def rdy (s:Nat) (l:List Oper) (listed:Array Bool):Bool:=match a2J s listed.toList 0 with
 |none=>false
 |some i=>(aJ .any l.toArray listed).contains i
theorem gdR s (_:rdy s l listed=true)(h:JA cx Q l I1 A Z z fuel listed e I H):JA cx Q l I1 A Z z fuel listed e I H:=h
theorem YT s k (_:ak s l listed e=k)(h:JA cx Q l I1 A Z z fuel listed e I H):JA cx Q l I1 A Z z fuel listed e I H:=h
theorem JA.tn s {i d v}(hl:a2J s listed.toList 0=some i)(G:l.toArray[i]?=some o)(M:UW I1 A Z I H)(N:BN cx o e (SC I1 A Z) v)(k:JA cx Q l I1 A Z z fuel (listed.setIfInBounds i true) ((d,v)::e) I H)
 (O:o.dst=some d:=by rfl)(hg:o.guard=none:=by rfl)(hn:Nat.blt d cx.n=true:=by rfl)(hz:zok l.toArray listed z i=true:=by first|rfl|kernel_rfl)(hs:Region.noSelect l.toArray=true:=by kernel_rfl)(hf:Region.free .any l.toArray listed i=true:=by kernel_rfl)
 (hr:(Region.ready .any l.toArray listed).contains i=true:=by kernel_rfl)(hq:∀c a w,Q (.panic c) (a.put (some d) v) w→Q (.panic c) a w:=by exact fun _ _ _ h=>h):JA cx Q l I1 A Z z (fuel+1) listed e I H:=JA.tk i G M N k O hg hn hz hs hf hr hq
theorem JA.tnG s {i d j M G b v}(hl:a2J s listed.toList 0=some i)(O:l.toArray[i]?=some o)(hx:UW I1 A Z I H)(hg:o.guard=some (j,G))(N:(l.toArray[j]?).bind (·.dst)=some M)(hv:eg e M=some (.bool b))(hb:b=G)(hy:BN cx o e (SC I1 A Z) v)
 (k:JA cx Q l I1 A Z z fuel (listed.setIfInBounds i true) ((d,v)::e) I H)(hd:o.dst=some d:=by rfl)(hn:Nat.blt d cx.n=true:=by rfl)(hz:zok l.toArray listed z i=true:=by first|rfl|kernel_rfl)(hs:Region.noSelect l.toArray=true:=by kernel_rfl)(hf:Region.free .any l.toArray listed i=true:=by kernel_rfl)
 (hr:(Region.ready .any l.toArray listed).contains i=true:=by kernel_rfl)(hq:∀c a w,Q (.panic c) (a.put (some d) v) w→Q (.panic c) a w:=by exact fun _ _ _ h=>h):JA cx Q l I1 A Z z (fuel+1) listed e I H:=JA.tkG i j M G b O hx N hv hb hy k hd hg hn hz hs hf hr hq
theorem JA.tnS s {i d j M G u}(hl:a2J s listed.toList 0=some i)(O:l.toArray[i]?=some o)(hx:UW I1 A Z I H)(hg:o.guard=some (j,G))(N:(l.toArray[j]?).bind (·.dst)=some M)(hv:eg e M=some u)(hb:u= .bool (!G)∨u=undef)
 (k:JA cx Q l I1 A Z z fuel (listed.setIfInBounds i true) ((d,undef)::e) I H)(hd:o.dst=some d:=by rfl)(hn:Nat.blt d cx.n=true:=by rfl)(hz:zok l.toArray listed z i=true:=by first|rfl|kernel_rfl)(hs:Region.noSelect l.toArray=true:=by kernel_rfl)(hf:Region.free .any l.toArray listed i=true:=by kernel_rfl)
 (hr:(Region.ready .any l.toArray listed).contains i=true:=by kernel_rfl)(hq:∀c a w,Q (.panic c) (a.put (some d) undef) w→Q (.panic c) a w:=by exact fun _ _ _ h=>h):JA cx Q l I1 A Z z (fuel+1) listed e I H:=JA.tkS i j M G u O hx N hv hb k hd hg hn hz hs hf hr hq
theorem JA.dn(G:a2J 0 listed.toList 0=none)(M:aJ .any l.toArray listed=[])(h:Ej cx Q .normal e I H):JA cx Q l I1 A Z z fuel listed e I H:=match G with|_=>JA.done M h
theorem JA.st1{i}(hl:a2J 0 listed.toList 0=some i)(M:l.toArray[i]?=some o)(N:aJ .any l.toArray listed=[i])(O:o.guard=none)(k:EZ cx Q o e I H (fun e' G H'=>(Le I1 G∧HSub A H'∧CSub Z H')∧JA cx Q l I1 A Z z fuel (listed.setIfInBounds i true) e' G H')):JA cx Q l I1 A Z z (fuel+1) listed e I H:=JA.step i N M O k
theorem JA.st2{i j M G b}(hl:a2J 0 listed.toList 0=some i)(hi:l.toArray[i]?=some o)(hr:aJ .any l.toArray listed=[i])(hg:o.guard=some (j,G))(N:(l.toArray[j]?).bind (·.dst)=some M)(hv:eg e M=some (.bool b))(hb:b=G)
 (k:EZ cx Q o e I H (fun e' O H'=>(Le I1 O∧HSub A H'∧CSub Z H')∧JA cx Q l I1 A Z z fuel (listed.setIfInBounds i true) e' O H')):JA cx Q l I1 A Z z (fuel+1) listed e I H:=JA.stepG i j M G b hr hi hg N hv hb k
end
theorem NM{P:Prop}(h:P:=by
 first|intro _ _ _ _ h|intro _ _ h
 first
 |(obtain⟨h,_⟩:=h;cases h;done)
 |(obtain⟨_,h,_⟩:=h;cases h;done)
 |(obtain⟨_,_,h,_⟩:=h;cases h;done)
 |(obtain⟨_,_,_,h,_⟩:=h;cases h;done)
 |(obtain⟨_,_,_,_,h,_⟩:=h;cases h;done)
 |(obtain⟨_,_,_,_,_,h,_⟩:=h;cases h;done)
 |(obtain⟨⟨_,h,_⟩,_⟩:=h;cases h;done)
 |(obtain⟨⟨_,_,h,_⟩,_⟩:=h;cases h;done)
 |(obtain⟨⟨_,h⟩,_⟩:=h;cases h;done)
 |(cases h;done)):P:=h
structure Cnt (n:Nat):Prop where
theorem Cnt.p{n}(_:Cnt (n+1)):Cnt n:=⟨⟩
structure Row (R:HL):Prop where
section
variable {cx:Cx} {Q:Qt} {o:Oper} {e:Env} {I:Heap} {H:HL} {C:Ct} {S:World→Prop}
theorem a8x{x y T E b off n c sz off' k i}(_:Cnt off')(M:o.op= .indexAddr T x y)(N:ev e x=some (.slice (some ⟨b,off,none⟩) n c))(O:ev e y=some (.int k i))
 (Q:cx.P.underlying T=some (.slice E))(G:∀w,(sizeOf E).run cx.P w= .ok sz w)(h0:0≤i)(h1:i<n)(A:off+i.toNat*sz=off'):BN cx o e S (ptr b off'):=a1v M N O Q G h0 h1 A
theorem c3B{T E d sz by' n m x y U g xs ys M z R}(_:Cnt by')(_:Row R)(ho:o.op= .call ⟨.builtin .append,#[x,y],#[T,U]⟩)(hd:o.dst=some d)(hn:aS d cx.n=true)
 (hx:ev e x=some (gV n g))(hy:ev e y=some M)(hu:cx.P.underlying T=some (.slice E))(hU:cx.P.underlying U=some .string∨∃E',cx.P.underlying U=some (.slice E'))
 (N:(cx.P.info? E).map (·.bytes)=some (by'+1))(O:∀w,(sizeOf E).run cx.P w= .ok sz w)(hz:∀w,(zeroValue E).run cx.P w= .ok z w)(Z:z.cells.size=sz)
 (hg:AL cx.w0.heap.size sz n xs g)(hH:H=R++gH E xs g)(hs:Src cx.P I H sz m M ys)(A:(2*(n+m)+768)*(by'+1)≤281474976710656)
 (k:∀G,AL cx.w0.heap.size sz (n+m) (xs++ys) G→C ((d,gV (n+m) G)::e) I (R++gH E (xs++ys) G)):EZ cx Q o e I H C:=zT R ho hd hn hx hy hu hU N O hz Z hg hH hs A k
theorem a8t{H1 R d f Z xs ts N O vs}{G:Ending→Heap→HL→Prop}(_:Row H1)(ho:o.op= .call ⟨.value Z,xs.toArray,ts⟩)(hd:o.dst=some d)(hn:aS d cx.n=true)(hf:ev e Z=some (.func (.func f) N.toArray O.toArray))(hx:evs e xs=some vs)
 (hs:yY cx.P f (N++vs++O) I H1 G)(hH:H=H1++R)(k:∀v M A,Le I M→G (.returned v) M A→C ((d,v)::e) M (A++R))(kp:∀ch M A,Le I M→G (.panicked ch) M A→Ej cx Q (.panic ch) e M (A++R))
 (ko:∀M A,¬G .outgrown M A):EZ cx Q o e I H C:=by subst hH;exact zU ho hd hn hf hx hs k kp ko
theorem a5E{H1 R d f Z xs ts N O vs}{G:Ending→Heap→HL→Prop}(_:Row R)(hH:H=R++H1)
 (ho:o.op= .call ⟨.value Z,xs.toArray,ts⟩)(hd:o.dst=some d)(hn:aS d cx.n=true)(hf:ev e Z=some (.func (.func f) N.toArray O.toArray))(hx:evs e xs=some vs)
 (hs:yY cx.P f (N++vs++O) I H1 G)
 (k:∀v M A,Le I M→G (.returned v) M A→C ((d,v)::e) M (R++A))
 (kp:∀ch M A,Le I M→G (.panicked ch) M A→Ej cx Q (.panic ch) e M (R++A))
 (ko:∀M A,¬G .outgrown M A):EZ cx Q o e I H C:=b5H R hH ho hd hn hf hx hs k kp ko
end
theorem ax1{A B:Prop}(a:A)(h:Wr A→B:=by
 intro a
 first
 | (with_reducible show J _ _ _ _ _ _ _)
   first
   |(refine gdJ 2 rfl ?_;refine J.zy rfl rfl rfl (by first|exact yA) ?_)
   |(refine gdJ 0 rfl ?_;refine J.nil ?_)
   |(refine gdJ 1 rfl ?_;first|refine J.skip _ _ _ _ _ rfl rfl rfl (by first|exact OB) rfl rfl ?_|refine J.d1y _ _ _ _ rfl rfl rfl rfl rfl ?_|refine J.XA _ _ _ _ rfl rfl rfl (by first|exact OB) (YE (by first|exact yA) rfl rfl ?_))
   |(refine gdJ 3 rfl ?_;refine J.op rfl ?_;first|(refine gdO 4 rfl ?_;refine KP rfl rfl rfl rfl rfl ?_)|(refine gdO 3 rfl ?_;refine EN rfl rfl rfl (uZ rfl rfl) rfl ?_)|(refine gdO 6 rfl ?_;refine a0z rfl rfl rfl (uU rfl rfl) (uS rfl rfl) (uZ rfl rfl) (by first|exact rfl) rfl (by first|exact rfl) (by first|exact rfl) (by first|exact ES) ?_)|(refine gdO 8 rfl ?_;refine b1b rfl rfl rfl rfl (by first|exact ceA) (by first|exact onA) (uS rfl rfl) (by first|exact rfl) (by first|exact chA) (by first|exact lsA) ?_))
 | (with_reducible show JA _ _ _ _ _ _ _ _ _ _ _ _)
   first
   |(refine YT 0 2 rfl ?_;refine gdR 0 (by decide +kernel) ?_;refine JA.tn 0 rfl rfl (by first|exact CP) (by first|exact yA) ?_)
   |(refine YT 0 1 rfl ?_;refine gdR 0 (by decide +kernel) ?_;first|refine JA.tnS 0 rfl rfl (by first|exact CP) rfl rfl rfl (by first|exact .inl (congrArg Value.bool (by first|exact OB))|exact .inr rfl) ?_|refine JA.tnG 0 rfl rfl (by first|exact CP) rfl rfl rfl (by first|exact OB) (by first|exact yA) ?_)
   |(refine YT 1 2 rfl ?_;refine gdR 1 (by decide +kernel) ?_;refine JA.tn 1 rfl rfl (by first|exact CP) (by first|exact yA) ?_)
   |(refine YT 1 1 rfl ?_;refine gdR 1 (by decide +kernel) ?_;first|refine JA.tnS 1 rfl rfl (by first|exact CP) rfl rfl rfl (by first|exact .inl (congrArg Value.bool (by first|exact OB))|exact .inr rfl) ?_|refine JA.tnG 1 rfl rfl (by first|exact CP) rfl rfl rfl (by first|exact OB) (by first|exact yA) ?_)
   |(refine YT 2 2 rfl ?_;refine gdR 2 (by decide +kernel) ?_;refine JA.tn 2 rfl rfl (by first|exact CP) (by first|exact yA) ?_)
   |(refine YT 2 1 rfl ?_;refine gdR 2 (by decide +kernel) ?_;first|refine JA.tnS 2 rfl rfl (by first|exact CP) rfl rfl rfl (by first|exact .inl (congrArg Value.bool (by first|exact OB))|exact .inr rfl) ?_|refine JA.tnG 2 rfl rfl (by first|exact CP) rfl rfl rfl (by first|exact OB) (by first|exact yA) ?_)
   |(refine YT 3 2 rfl ?_;refine gdR 3 (by decide +kernel) ?_;refine JA.tn 3 rfl rfl (by first|exact CP) (by first|exact yA) ?_)
   |(refine YT 3 1 rfl ?_;refine gdR 3 (by decide +kernel) ?_;first|refine JA.tnS 3 rfl rfl (by first|exact CP) rfl rfl rfl (by first|exact .inl (congrArg Value.bool (by first|exact OB))|exact .inr rfl) ?_|refine JA.tnG 3 rfl rfl (by first|exact CP) rfl rfl rfl (by first|exact OB) (by first|exact yA) ?_)
   |(refine YT 4 2 rfl ?_;refine gdR 4 (by decide +kernel) ?_;refine JA.tn 4 rfl rfl (by first|exact CP) (by first|exact yA) ?_)
   |(refine YT 4 1 rfl ?_;refine gdR 4 (by decide +kernel) ?_;first|refine JA.tnS 4 rfl rfl (by first|exact CP) rfl rfl rfl (by first|exact .inl (congrArg Value.bool (by first|exact OB))|exact .inr rfl) ?_|refine JA.tnG 4 rfl rfl (by first|exact CP) rfl rfl rfl (by first|exact OB) (by first|exact yA) ?_)
   |(refine YT 5 2 rfl ?_;refine gdR 5 (by decide +kernel) ?_;refine JA.tn 5 rfl rfl (by first|exact CP) (by first|exact yA) ?_)
   |(refine YT 5 1 rfl ?_;refine gdR 5 (by decide +kernel) ?_;first|refine JA.tnS 5 rfl rfl (by first|exact CP) rfl rfl rfl (by first|exact .inl (congrArg Value.bool (by first|exact OB))|exact .inr rfl) ?_|refine JA.tnG 5 rfl rfl (by first|exact CP) rfl rfl rfl (by first|exact OB) (by first|exact yA) ?_)
   |(refine YT 6 2 rfl ?_;refine gdR 6 (by decide +kernel) ?_;refine JA.tn 6 rfl rfl (by first|exact CP) (by first|exact yA) ?_)
   |(refine YT 6 1 rfl ?_;refine gdR 6 (by decide +kernel) ?_;first|refine JA.tnS 6 rfl rfl (by first|exact CP) rfl rfl rfl (by first|exact .inl (congrArg Value.bool (by first|exact OB))|exact .inr rfl) ?_|refine JA.tnG 6 rfl rfl (by first|exact CP) rfl rfl rfl (by first|exact OB) (by first|exact yA) ?_)
   |(refine YT 0 0 rfl ?_;refine JA.dn rfl (by kernel_rfl) ?_)
   |(refine YT 0 3 rfl ?_;refine JA.st1 rfl rfl (by kernel_rfl) rfl ?_;first|(refine gdO 4 rfl ?_;refine KP rfl rfl rfl rfl rfl ?_)|(refine gdO 3 rfl ?_;refine EN rfl rfl rfl (uZ rfl rfl) rfl ?_)|(refine gdO 6 rfl ?_;refine a0z rfl rfl rfl (uU rfl rfl) (uS rfl rfl) (uZ rfl rfl) (by first|exact rfl) rfl (by first|exact rfl) (by first|exact rfl) (by first|exact ES) ?_)|(refine gdO 8 rfl ?_;refine b1b rfl rfl rfl rfl (by first|exact ceA) (by first|exact onA) (uS rfl rfl) (by first|exact rfl) (by first|exact chA) (by first|exact lsA) ?_))
 | (with_reducible show And (And (Le _ _) _) _)
   refine And.intro (And.intro (by repeat first|exact Le.refl _|assumption|refine Le.trans ?_ (by assumption)) (And.intro (by repeat first|exact HSub.n|refine HSub.c 0 rfl ?_|refine HSub.c 1 rfl ?_|refine HSub.c 2 rfl ?_|refine HSub.c 3 rfl ?_|refine HSub.c 4 rfl ?_|refine HSub.c 5 rfl ?_) (by repeat first|exact CSub.n|refine CSub.c 0 rfl rfl ?_|refine CSub.c 1 rfl rfl ?_))) ?_
 | (with_reducible show Cj _ _ _ _ _ _)
   first
   |with_reducible refine Cj.seq ?_
   |with_reducible refine Cj.region ?_
   |with_reducible refine Cj.block ?_
   |with_reducible refine Cj.skip ?_
   |with_reducible refine Cj.exit ?_
   |with_reducible refine Cj.ret ?_
   |(with_reducible show Cj _ _ (Code.cond _ _ _) _ _ _);first|refine Cj.cT (by first|exact rfl) (by first|exact eqB) ?_|refine Cj.cF (by first|exact rfl) (by first|exact eqB) ?_
   |refine Cj.seq ?_
   |refine Cj.region ?_
 | (with_reducible show Ej _ _ _ _ _ _)
   first
   |with_reducible refine Ej.seq ?_
   |with_reducible refine Ej.MN ?_
   |with_reducible refine Ej.a1b ?_
   |with_reducible refine Ej.a4A ?_
   |with_reducible refine Ej.b8q ?_
   |with_reducible refine Ej.YW ?_
   |with_reducible refine Ej.a2U ?_
   |with_reducible refine Ej.c1P ?_
 exact a.1):B:=h ⟨a⟩
theorem yU n {A B:Prop}(a:A)(h:Cnt n→Wr A→B:=by
 intro s a
 repeat(replace s:=Cnt.p s;refine ax1 ?_)
 exact a.1):B:=h ⟨⟩ ⟨a⟩
theorem tst{b}{p n:Prop}(h:(b=true→p)∧(b=false→n):=by first
 |exact⟨of_decide_eq_true,of_decide_eq_false⟩
 |exact⟨eq_of_beq,ne_of_beq_false⟩
 |exact⟨bne_iff_ne.1,EC⟩
 |exact⟨id,id⟩):(b=true→p)∧(b=false→n):=h
theorem yZ{b}{p n A G B:Prop}(M:b=true→p→A)(N:b=false→n→G)(h:Wr (b=true→A)→Wr (b=false→G)→B:=by
 intro O Q
 repeat refine ax1 ?_
 exact Cj.cond rfl O.1 Q.1)(k:(b=true→p)∧(b=false→n):=by exact tst):B:=h ⟨fun h=>M h (k.1 h)⟩ ⟨fun h=>N h (k.2 h)⟩
theorem DF{b}{A G B:Prop}(M:b=true→A)(N:b=false→G)(h:Wr (b=true→A)→Wr (b=false→G)→B:=by
 intro O Q
 repeat refine ax1 ?_
 exact Cj.cond rfl O.1 Q.1):B:=h ⟨M⟩ ⟨N⟩
theorem DZ{b}{p n A G B:Prop}(M:b=true→p→A)(N:b=false→n→G)(h:Wr (b=true→A)→Wr (b=false→G)→B:=by
 intro O Q
 repeat refine ax1 ?_
 exact J.spG rfl rfl rfl O.1 Q.1)(k:(b=true→p)∧(b=false→n):=by exact tst):B:=h ⟨fun h=>M h (k.1 h)⟩ ⟨fun h=>N h (k.2 h)⟩
theorem EH{b}{A G B:Prop}(M:b=true→A)(N:b=false→G)(h:Wr (b=true→A)→Wr (b=false→G)→B:=by
 intro O Q
 repeat refine ax1 ?_
 exact J.spG rfl rfl rfl O.1 Q.1):B:=h ⟨M⟩ ⟨N⟩
theorem zV{A B:Prop}(a:A)(h:Wr A→B:=by
 intro a
 repeat refine ax1 ?_
 first
 |exact Ej.bare (Ej.YI rfl rfl rfl a.1)
 |exact Ej.bare (Ej.b8O rfl rfl rfl rfl a.1)
 |exact Ej.bare (Ej.PU rfl rfl a.1)
 |exact Ej.bare (Ej.a7H rfl rfl a.1)):B:=h ⟨a⟩
theorem zM{A B:Prop}(a:A)(h:Wr A→B:=by
 intro a
 repeat refine ax1 ?_
 first
 |exact Ej.YI rfl rfl rfl a.1
 |exact Ej.b8O rfl rfl rfl rfl a.1
 |exact Ej.PU rfl rfl a.1
 |exact Ej.a7H rfl rfl a.1):B:=h ⟨a⟩
theorem zO{P f args I v}{A B:Prop}(c:Pure P f args I v)(a:A)(h:Pure P f args I v→Wr A→B:=by
 intro c a
 repeat refine ax1 ?_
 first
 | (with_reducible show J _ _ _ _ _ _ _)
   first
   |exact J.op rfl (EK rfl rfl rfl rfl rfl c a.1)
   |exact J.XA _ _ _ _ rfl rfl rfl (by first|exact OB) (EK rfl rfl rfl rfl rfl c a.1)
 | (with_reducible show JA _ _ _ _ _ _ _ _ _ _ _ _)
   first
   |exact JA.st1 rfl rfl (by kernel_rfl) rfl (EK rfl rfl rfl rfl rfl c a.1)
   |exact JA.st2 rfl rfl (by kernel_rfl) rfl rfl rfl (by first|exact OB) (EK rfl rfl rfl rfl rfl c a.1)
 |exact EK rfl rfl rfl rfl rfl c a.1):B:=h c ⟨a⟩
theorem zX{P f args I H1}{G:Ending→Heap→HL→Prop}{A B:Prop}(c:yY P f args I H1 G)(a:A)(h:Row H1→yY P f args I H1 G→Wr A→B:=by
 intro r c a
 repeat refine ax1 ?_
 first
 | (with_reducible show J _ _ _ _ _ _ _)
   first
   |exact J.op rfl (a8t r rfl rfl rfl rfl rfl c rfl a.1 (by first|exact NM) (by first|exact NM))
   |exact J.XA _ _ _ _ rfl rfl rfl (by first|exact OB) (a8t r rfl rfl rfl rfl rfl c rfl a.1 (by first|exact NM) (by first|exact NM))
 | (with_reducible show JA _ _ _ _ _ _ _ _ _ _ _ _)
   first
   |exact JA.st1 rfl rfl (by kernel_rfl) rfl (a8t r rfl rfl rfl rfl rfl c rfl a.1 (by first|exact NM) (by first|exact NM))
   |exact JA.st2 rfl rfl (by kernel_rfl) rfl rfl rfl (by first|exact OB) (a8t r rfl rfl rfl rfl rfl c rfl a.1 (by first|exact NM) (by first|exact NM))
 |exact a8t r rfl rfl rfl rfl rfl c rfl a.1 (by first|exact NM) (by first|exact NM)):B:=h ⟨⟩ c ⟨a⟩
theorem NG{P f args I}{G:Ending→Heap→HL→Prop}{A B:Prop}(c:yY P f args I [] G)(a:A)(h:yY P f args I [] G→Wr A→B:=by
 intro c a
 repeat refine ax1 ?_
 first
 | (with_reducible show J _ _ _ _ _ _ _)
   first
   |exact J.op rfl (ZF rfl rfl rfl rfl rfl c a.1 (by first|exact NM) (by first|exact NM))
   |exact J.XA _ _ _ _ rfl rfl rfl (by first|exact OB) (ZF rfl rfl rfl rfl rfl c a.1 (by first|exact NM) (by first|exact NM))
 | (with_reducible show JA _ _ _ _ _ _ _ _ _ _ _ _)
   first
   |exact JA.st1 rfl rfl (by kernel_rfl) rfl (ZF rfl rfl rfl rfl rfl c a.1 (by first|exact NM) (by first|exact NM))
   |exact JA.st2 rfl rfl (by kernel_rfl) rfl rfl rfl (by first|exact OB) (ZF rfl rfl rfl rfl rfl c a.1 (by first|exact NM) (by first|exact NM))
 |exact ZF rfl rfl rfl rfl rfl c a.1 (by first|exact NM) (by first|exact NM)):B:=h c ⟨a⟩
theorem RS{P f args I H1} R {G:Ending→Heap→HL→Prop}{A B:Prop}(c:yY P f args I H1 G)(a:A)(h:Row R→yY P f args I H1 G→Wr A→B:=by
 intro r c a
 repeat refine ax1 ?_
 first
 | (with_reducible show J _ _ _ _ _ _ _)
   first
   |exact J.op rfl (a5E r rfl rfl rfl rfl rfl rfl c a.1 (by first|exact NM) (by first|exact NM))
   |exact J.XA _ _ _ _ rfl rfl rfl (by first|exact OB) (a5E r rfl rfl rfl rfl rfl rfl c a.1 (by first|exact NM) (by first|exact NM))
 | (with_reducible show JA _ _ _ _ _ _ _ _ _ _ _ _)
   first
   |exact JA.st1 rfl rfl (by kernel_rfl) rfl (a5E r rfl rfl rfl rfl rfl rfl c a.1 (by first|exact NM) (by first|exact NM))
   |exact JA.st2 rfl rfl (by kernel_rfl) rfl rfl rfl (by first|exact OB) (a5E r rfl rfl rfl rfl rfl rfl c a.1 (by first|exact NM) (by first|exact NM))
 |exact a5E r rfl rfl rfl rfl rfl rfl c a.1 (by first|exact NM) (by first|exact NM)):B:=h ⟨⟩ c ⟨a⟩
section
variable {cx:Cx} {Q:Qt} {e:Env} {I I1:Heap} {H A:HL} {Z:CL} {z fuel:Nat} {listed:Array Bool} {ops:Array Oper} {l:List Oper} {o:Oper}
theorem J.zg{j d G A b v}(M:BN cx o e (SS I H) v)(k:J cx Q ops l ((G,v)::e) I H)(N:o.guard=some (j,A):=by rfl)(O:(ops[j]?).bind (·.dst)=some d:=by rfl)(Z:eg e d=some (.bool b):=by rfl)(hb:b=A:=by exact OB)(ho:o.dst=some G:=by rfl)(hn:Nat.blt G cx.n=true:=by rfl):J cx Q ops (o::l) e I H:=J.XA j d A b N O Z hb (YE M ho hn k)
end
theorem zW off {A B:Prop}(a:A)(h:Cnt off→Wr A→B:=by
 intro s a
 repeat refine ax1 ?_
 first
 |(with_reducible show J _ _ _ _ _ _ _);first|(refine gdJ 2 rfl ?_;first|exact J.z (a8x s rfl rfl rfl (uU rfl rfl) (uS rfl rfl) (by first|decide|omega) (by first|decide|omega) (by first|decide|omega|(simp;done)|(simp;omega))) a.1|exact J.z (yl_ixA s rfl rfl rfl (uU rfl rfl) (uS rfl rfl) (by first|decide|omega) (by first|decide|omega) (by first|decide|omega|(simp;done)|(simp;omega))) a.1)|(refine gdJ 1 rfl ?_;first|exact J.zg (a8x s rfl rfl rfl (uU rfl rfl) (uS rfl rfl) (by first|decide|omega) (by first|decide|omega) (by first|decide|omega|(simp;done)|(simp;omega))) a.1|exact J.zg (yl_ixA s rfl rfl rfl (uU rfl rfl) (uS rfl rfl) (by first|decide|omega) (by first|decide|omega) (by first|decide|omega|(simp;done)|(simp;omega))) a.1)
 |(refine YT 0 2 rfl ?_;first|exact JA.tn 0 rfl rfl (by first|exact CP) (a8x s rfl rfl rfl (uU rfl rfl) (uS rfl rfl) (by first|decide|omega) (by first|decide|omega) (by first|decide|omega|(simp;done)|(simp;omega))) a.1|exact JA.tn 0 rfl rfl (by first|exact CP) (yl_ixA s rfl rfl rfl (uU rfl rfl) (uS rfl rfl) (by first|decide|omega) (by first|decide|omega) (by first|decide|omega|(simp;done)|(simp;omega))) a.1)
 |(refine YT 0 1 rfl ?_;first|exact JA.tnG 0 rfl rfl (by first|exact CP) rfl rfl rfl (by first|exact OB) (a8x s rfl rfl rfl (uU rfl rfl) (uS rfl rfl) (by first|decide|omega) (by first|decide|omega) (by first|decide|omega|(simp;done)|(simp;omega))) a.1|exact JA.tnG 0 rfl rfl (by first|exact CP) rfl rfl rfl (by first|exact OB) (yl_ixA s rfl rfl rfl (uU rfl rfl) (uS rfl rfl) (by first|decide|omega) (by first|decide|omega) (by first|decide|omega|(simp;done)|(simp;omega))) a.1)):B:=h ⟨⟩ ⟨a⟩
theorem KT m R {G sz n xs g}(c:AL G sz n xs g){A B:Prop}(a:A)(h:Cnt m→Row R→AL G sz n xs g→Wr A→B:=by
 intro s r c a
 repeat refine ax1 ?_
 first
 |(with_reducible show J _ _ _ _ _ _ _);exact J.op rfl (c3B s r rfl rfl rfl rfl rfl (uU rfl rfl) (.inr ⟨_,(uU rfl rfl)⟩) (by kernel_rfl) (uS rfl rfl) (uZ rfl rfl) rfl c rfl (Src.slice (by first|exact bkA) rfl rfl rfl) (by omega) a.1)
 |exact JA.st1 rfl rfl (by kernel_rfl) rfl (c3B s r rfl rfl rfl rfl rfl (uU rfl rfl) (.inr ⟨_,(uU rfl rfl)⟩) (by kernel_rfl) (uS rfl rfl) (uZ rfl rfl) rfl c rfl (Src.slice (by first|exact bkA) rfl rfl rfl) (by omega) a.1)):B:=h ⟨⟩ ⟨⟩ c ⟨a⟩
section
variable {cx:Cx} {Q:Qt} {e:Env} {I I1:Heap} {H A:HL} {Z:CL} {z fuel:Nat} {listed:Array Bool} {ops:Array Oper} {l:List Oper} {o:Oper}
theorem J.ez d A {v}(G:eg e d=some v)(h:v=A)(k:J cx Q ops l ((d,A)::e) I H):J cx Q ops l e I H:=J.eqv d G h k
theorem JA.ez d G {v}(M:eg e d=some v)(h:v=G)(k:JA cx Q l I1 A Z z fuel listed ((d,G)::e) I H):JA cx Q l I1 A Z z fuel listed e I H:=JA.eqv d M h k
theorem Cj.ez{c} d A {v}(G:eg e d=some v)(h:v=A)(k:Cj cx Q c ((d,A)::e) I H):Cj cx Q c e I H:=Cj.eqv d G h k
theorem JA.zt i {d v}(G:l.toArray[i]?=some o)(M:BN cx o e (SC I1 A Z) v)(k:JA cx Q l I1 A Z z fuel (listed.setIfInBounds i true) ((d,v)::e) I H)(N:UW I1 A Z I H:=by exact CP)
 (O:o.dst=some d:=by rfl)(hg:o.guard=none:=by rfl)(hn:Nat.blt d cx.n=true:=by rfl)(hz:zok l.toArray listed z i=true:=by first|rfl|kernel_rfl)(hs:Region.noSelect l.toArray=true:=by kernel_rfl)(hf:Region.free .any l.toArray listed i=true:=by kernel_rfl)
 (hr:(Region.ready .any l.toArray listed).contains i=true:=by kernel_rfl)(hq:∀c a w,Q (.panic c) (a.put (some d) v) w→Q (.panic c) a w:=by exact fun _ _ _ h=>h):JA cx Q l I1 A Z z (fuel+1) listed e I H:=JA.tk i G N M k O hg hn hz hs hf hr hq
end
theorem zN{P f fn c args I H}{A:Ending→Heap→HL→Prop}(M:P.funcs[f]?=some fn)
 (h:∀w0,Ready I H w0→Cj ⟨P,fn.ntmps,w0,H.map (·.1),I,[],none⟩ (bodyPost P fn (RR w0 (H.map (·.1)) I A)) c (PE 0 args) I H)(N:fn.body=some c:=by rfl)(G:fn.name≠ "runtime.NumGoroutine" :=by decide)
 (O:args.length≤fn.ntmps:=by exact Nat.le_of_ble_eq_true rfl):yY P f args I H A:=yY.b8v M N G O h
end Go.Sx
namespace Go.Proofs
open _root_.Go.Proofs.Tryz
open Go.Shelf
def Tryz.a7k:aB:=⟨fun|158=>167|165=>236|166=>180|167=>194|169=>182|230=>237|203=>238|240=>245|241=>310|197=>263|118=>311|168=>312|270=>313|262=>314|276=>323|277=>350|260=>331|242=>351|313=>352|278=>370|274=>371|275=>372|n=>n,fun|9=>9|4=>4|3=>3|5=>5|72=>277|0=>0|76=>281|75=>280|107=>325|70=>275|20=>20|37=>268|127=>344|21=>21|105=>355|164=>386|162=>409|203=>407|119=>418|46=>176|139=>429|138=>428|51=>237|160=>434|208=>455|206=>453|80=>34|n=>n,fun|13=>1|3=>2|4=>3|n=>n⟩
theorem Tryz.c8e:aW aA Tryz.a7k:=by
 constructor
 case mixed=>kernel_rfl
 case f118=>exact func311.trans (zC some kR)
 case f158=>exact func167.trans (zC some kR)
 case f165=>exact func236.trans (zC some kR)
 case f166=>exact func180.trans (zC some kR)
 case f167=>exact func194.trans (zC some kR)
 case f168=>exact func312.trans (zC some kR)
 case f169=>exact func182.trans (zC some kR)
 case f197=>exact func263.trans (zC some kR)
 case f203=>exact func238.trans (zC some kR)
 case f230=>exact func237.trans (zC some kR)
 case f240=>exact func245.trans (zC some kR)
 case f241=>exact func310.trans (zC some kR)
 case f242=>exact func351.trans (zC some kR)
 case f260=>exact func331.trans (zC some kR)
 case f262=>exact func314.trans (zC some kR)
 case f270=>exact func313.trans (zC some kR)
 case f274=>exact func371.trans (zC some kR)
 case f275=>exact func372.trans (zC some kR)
 case f276=>exact func323.trans (zC some kR)
 case f277=>exact func350.trans (zC some kR)
 case f278=>exact func370.trans (zC some kR)
 case f313=>exact func352.trans (zC some kR)
 case g3=>kernel_rfl
 case g4=>kernel_rfl
 case g13=>kernel_rfl
 iterate 16 exact Go.Sx.uU rfl rfl;exact Go.Sx.uG rfl rfl;exact Go.Sx.uS rfl rfl;exact Go.Sx.uZ rfl rfl
 exact Go.Sx.uU rfl rfl;exact Go.Sx.uG rfl rfl;exact Go.Sx.uS rfl rfl
 iterate 9 exact Go.Sx.uU rfl rfl;exact Go.Sx.uG rfl rfl;exact Go.Sx.uS rfl rfl;exact Go.Sx.uZ rfl rfl
theorem Tryz.a6G:aN aA Tryz.a7k:={
 sizeBuilder:=kR
 liesBuilder:=kR
 t5:=underlying5
 a5:=isAgg5
 z5:=sizeOf5
 v5:=zeroValue5
 infoByte:=kR
 cellsByte:=kR
 sizeByte:=kR
 neB5:=by decide }
open Go.RowKit in
theorem Tryz.strings_ToUpper_ascii s w (G:s.size≤140737488355328)(A:∀(j:Nat) (b:UInt8),s.data.toList[j]?=some b→b.toNat<128):
 Calls aA 167 #[.string s] w fun e w'=>e= .returned (.string ⟨(Lib.toUpperA s.data.toList).toArray⟩)∧Below w.heap.size w w':=Any.strings_ToUpper_ascii Tryz.c8e Tryz.a6G s w G A
def Tryz.lays156_ren:aB:=⟨fun|156=>176|165=>236|166=>180|169=>182|240=>245|241=>310|276=>323|277=>350|n=>n,fun|31=>118|9=>9|3=>3|4=>4|0=>0|20=>20|72=>277|76=>281|70=>275|37=>268|75=>280|127=>344|164=>386|5=>5|80=>34|n=>n,fun|n=>n⟩
theorem Tryz.lays156:aX aA Tryz.lays156_ren:=by
 constructor
 case mixed=>kernel_rfl
 case f156=>exact func176.trans (zC some kR)
 case f165=>exact func236.trans (zC some kR)
 case f166=>exact func180.trans (zC some kR)
 case f169=>exact func182.trans (zC some kR)
 case f240=>exact func245.trans (zC some kR)
 case f241=>exact func310.trans (zC some kR)
 case f276=>exact func323.trans (zC some kR)
 case f277=>exact func350.trans (zC some kR)
 iterate 13 exact Go.Sx.uU rfl rfl;exact Go.Sx.uG rfl rfl;exact Go.Sx.uS rfl rfl;exact Go.Sx.uZ rfl rfl
theorem Tryz.Builder_Extra_156:aN aA Tryz.lays156_ren:={
 sizeBuilder:=kR
 liesBuilder:=kR
 t5:=underlying5
 a5:=isAgg5
 z5:=sizeOf5
 v5:=zeroValue5
 infoByte:=kR
 cellsByte:=kR
 sizeByte:=kR
 neB5:=by decide }
open Go.RowKit in
theorem Tryz.strings_Join_none a c A w:
 Calls aA 176 #[.slice a 0 c,.string A] w fun e w'=>e= .returned (.string ⟨#[]⟩)∧w'=w:=Any.strings_Join_none Tryz.lays156 Tryz.Builder_Extra_156 a c A w
open Go.RowKit in
theorem Tryz.strings_Join bk o c (xs:List ByteArray) A w (G:∀(j:Nat) x,xs[j]?=some x→w.cell? ⟨bk,o+j,none⟩=some (.string x))(O:bk<w.heap.size)(Q:xs.length≤140737488355328)(M:xs.length≤c)(N:(Lib.join (xs.map (·.data.toList)) A.data.toList).length≤140737488355328):
 Calls aA 176 #[.slice (some ⟨bk,o,none⟩) xs.length c,.string A] w fun e w'=>e= .returned (.string ⟨(Lib.join (xs.map (·.data.toList)) A.data.toList).toArray⟩)∧Below w.heap.size w w':=Any.strings_Join Tryz.lays156 Tryz.Builder_Extra_156 bk o c xs A w G O Q M N
def Tryz.b7i:aB:=⟨fun|161=>112|231=>187|227=>188|233=>189|235=>190|228=>193|197=>263|151=>166|260=>331|152=>191|137=>175|119=>264|224=>265|225=>266|217=>242|266=>321|n=>n,fun|9=>9|4=>4|3=>3|5=>5|117=>289|116=>288|0=>0|124=>292|105=>355|21=>21|119=>418|46=>176|139=>429|138=>428|n=>n,fun|3=>2|4=>3|n=>n⟩
theorem Tryz.lays161:aY aA Tryz.b7i:=by
 constructor
 case mixed=>kernel_rfl
 case f119=>exact func264.trans (zC some kR)
 case f137=>exact func175.trans (zC some kR)
 case f151=>exact func166.trans (zC some kR)
 case f152=>exact func191.trans (zC some kR)
 case f161=>exact func112.trans (zC some kR)
 case f197=>exact func263.trans (zC some kR)
 case f217=>exact func242.trans (zC some kR)
 case f224=>exact func265.trans (zC some kR)
 case f225=>exact func266.trans (zC some kR)
 case f227=>exact func188.trans (zC some kR)
 case f228=>exact func193.trans (zC some kR)
 case f231=>exact func187.trans (zC some kR)
 case f233=>exact func189.trans (zC some kR)
 case f235=>exact func190.trans (zC some kR)
 case f260=>exact func331.trans (zC some kR)
 case f266=>exact func321.trans (zC some kR)
 case g3=>kernel_rfl
 case g4=>kernel_rfl
 iterate 8 exact Go.Sx.uU rfl rfl;exact Go.Sx.uG rfl rfl;exact Go.Sx.uS rfl rfl;exact Go.Sx.uZ rfl rfl
 exact Go.Sx.uU rfl rfl;exact Go.Sx.uG rfl rfl;exact Go.Sx.uS rfl rfl;exact Go.Sx.uU rfl rfl;exact Go.Sx.uG rfl rfl;exact Go.Sx.uS rfl rfl;exact Go.Sx.uZ rfl rfl;exact Go.Sx.uU rfl rfl;exact Go.Sx.uG rfl rfl;exact Go.Sx.uS rfl rfl
 iterate 3 exact Go.Sx.uU rfl rfl;exact Go.Sx.uG rfl rfl;exact Go.Sx.uS rfl rfl;exact Go.Sx.uZ rfl rfl
open Go.RowKit in
theorem Tryz.strings_TrimLeft_one s c (A:c.toNat<128) w:
 Calls aA 112 #[.string s,.string ⟨#[c]⟩] w fun e w'=>e= .returned (.string ⟨(Lib.trimLeftB s.data.toList c).toArray⟩)∧w'=w:=Any.strings_TrimLeft_one Tryz.lays161 s c A w
def Tryz.b6c:aB:=⟨fun|160=>241|232=>318|231=>187|227=>188|234=>319|233=>189|236=>320|235=>190|228=>193|271=>359|151=>166|197=>263|120=>379|152=>191|260=>331|137=>175|119=>264|224=>265|225=>266|217=>242|266=>321|n=>n,fun|9=>9|4=>4|3=>3|5=>5|117=>289|116=>288|0=>0|124=>292|21=>21|105=>355|46=>176|119=>418|139=>429|138=>428|n=>n,fun|3=>2|4=>3|n=>n⟩
theorem Tryz.lays160:aZ aA Tryz.b6c:=by
 constructor
 case mixed=>kernel_rfl
 case f119=>exact func264.trans (zC some kR)
 case f120=>exact func379.trans (zC some kR)
 case f137=>exact func175.trans (zC some kR)
 case f151=>exact func166.trans (zC some kR)
 case f152=>exact func191.trans (zC some kR)
 case f160=>exact func241.trans (zC some kR)
 case f197=>exact func263.trans (zC some kR)
 case f217=>exact func242.trans (zC some kR)
 case f224=>exact func265.trans (zC some kR)
 case f225=>exact func266.trans (zC some kR)
 case f227=>exact func188.trans (zC some kR)
 case f228=>exact func193.trans (zC some kR)
 case f231=>exact func187.trans (zC some kR)
 case f232=>exact func318.trans (zC some kR)
 case f233=>exact func189.trans (zC some kR)
 case f234=>exact func319.trans (zC some kR)
 case f235=>exact func190.trans (zC some kR)
 case f236=>exact func320.trans (zC some kR)
 case f260=>exact func331.trans (zC some kR)
 case f266=>exact func321.trans (zC some kR)
 case f271=>exact func359.trans (zC some kR)
 case g3=>kernel_rfl
 case g4=>kernel_rfl
 iterate 8 exact Go.Sx.uU rfl rfl;exact Go.Sx.uG rfl rfl;exact Go.Sx.uS rfl rfl;exact Go.Sx.uZ rfl rfl
 exact Go.Sx.uU rfl rfl;exact Go.Sx.uG rfl rfl;exact Go.Sx.uS rfl rfl;exact Go.Sx.uU rfl rfl;exact Go.Sx.uG rfl rfl;exact Go.Sx.uS rfl rfl;exact Go.Sx.uZ rfl rfl;exact Go.Sx.uU rfl rfl;exact Go.Sx.uG rfl rfl;exact Go.Sx.uS rfl rfl
 iterate 3 exact Go.Sx.uU rfl rfl;exact Go.Sx.uG rfl rfl;exact Go.Sx.uS rfl rfl;exact Go.Sx.uZ rfl rfl
def Tryz.b7d:aB:=⟨fun|119=>264|n=>n,fun|21=>21|4=>4|n=>n,fun|n=>n⟩
theorem Tryz.lays119:bC aA Tryz.b7d:=by
 constructor
 case mixed=>kernel_rfl
 case f119=>exact func264.trans (zC some kR)
 iterate 2 exact Go.Sx.uU rfl rfl;exact Go.Sx.uG rfl rfl;exact Go.Sx.uS rfl rfl;exact Go.Sx.uZ rfl rfl
theorem Tryz.utf8_ValidRune r w:
 Calls aA 264 #[.int .i32 r] w fun e w'=>e= .returned (.bool (Lib.validRune r))∧w'=w:=Any.utf8_ValidRune Tryz.lays119 r w
def Tryz.b6E:aB:=⟨fun|106=>32|213=>66|265=>110|n=>n,fun|9=>9|3=>3|n=>n,fun|n=>n⟩
theorem Tryz.c8W:bD aA Tryz.b6E:=by
 constructor
 case mixed=>kernel_rfl
 case f106=>exact func32.trans (zC some kR)
 case f213=>exact func66.trans (zC some kR)
 case f265=>exact func110.trans (zC some kR)
 iterate 2 exact Go.Sx.uU rfl rfl;exact Go.Sx.uG rfl rfl;exact Go.Sx.uS rfl rfl;exact Go.Sx.uZ rfl rfl
open Go.RowKit in
theorem Tryz.strings_Compare a b w:
 Calls aA 32 #[.string a,.string b] w fun e w'=>e= .returned (.int .i64 (Lib.compareBytes a.data.toList b.data.toList))∧w'=w:=Any.strings_Compare Tryz.c8W a b w
def Tryz.b7j:aB:=⟨fun|137=>175|217=>242|266=>321|n=>n,fun|9=>9|5=>5|3=>3|n=>n,fun|n=>n⟩
theorem Tryz.lays137:bF aA Tryz.b7j:=by
 constructor
 case mixed=>kernel_rfl
 case f137=>exact func175.trans (zC some kR)
 case f217=>exact func242.trans (zC some kR)
 case f266=>exact func321.trans (zC some kR)
 iterate 3 exact Go.Sx.uU rfl rfl;exact Go.Sx.uG rfl rfl;exact Go.Sx.uS rfl rfl;exact Go.Sx.uZ rfl rfl
open Go.RowKit in
theorem Tryz.strings_IndexByte s c w:
 Calls aA 175 #[.string s,.int .u8 c] w fun e w'=>e= .returned (.int .i64 (aI s.data.toList c.toNat.toUInt8))∧w'=w:=Any.strings_IndexByte Tryz.lays137 s c w
def Tryz.b6l:aB:=⟨fun|122=>75|215=>125|n=>n,fun|3=>3|4=>4|n=>n,fun|n=>n⟩
theorem Tryz.c7H:bG aA Tryz.b6l:=by
 constructor
 case mixed=>kernel_rfl
 case f122=>exact func75.trans (zC some kR)
 case f215=>exact func125.trans (zC some kR)
 iterate 2 exact Go.Sx.uU rfl rfl;exact Go.Sx.uG rfl rfl;exact Go.Sx.uS rfl rfl;exact Go.Sx.uZ rfl rfl
open Go.RowKit in
theorem Tryz.cmp_Compare_int x y w:
 Calls aA 75 #[.int .i64 x,.int .i64 y] w fun e w'=>e= .returned (.int .i64 (Lib.compareInt x y))∧w'=w:=Any.cmp_Compare_int Tryz.c7H x y w
def Tryz.b7c:aB:=⟨fun|219=>380|217=>242|225=>266|224=>265|267=>392|266=>321|314=>409|n=>n,fun|9=>9|3=>3|4=>4|5=>5|46=>176|146=>475|51=>237|n=>n,fun|1=>0|n=>n⟩
theorem Tryz.lays219:bH aA Tryz.b7c:=by
 constructor
 case mixed=>kernel_rfl
 case f217=>exact func242.trans (zC some kR)
 case f219=>exact func380.trans (zC some kR)
 case f224=>exact func265.trans (zC some kR)
 case f225=>exact func266.trans (zC some kR)
 case f266=>exact func321.trans (zC some kR)
 case f267=>exact func392.trans (zC some kR)
 case f314=>exact func409.trans (zC some kR)
 case g1=>kernel_rfl
 iterate 7 exact Go.Sx.uU rfl rfl;exact Go.Sx.uG rfl rfl;exact Go.Sx.uS rfl rfl;exact Go.Sx.uZ rfl rfl
open Go.RowKit Go.Lib in
theorem Tryz.stringslite_Index_one s c w:
 Calls aA 380 #[.string s,.string ⟨#[c]⟩] w fun e w'=>e= .returned (.int .i64 (aI s.data.toList c))∧w'=w:=Any.stringslite_Index_one Tryz.lays219 s c w
def Tryz.b6O:aB:=⟨fun|138=>443|195=>444|218=>445|143=>446|219=>380|217=>242|225=>266|224=>265|267=>392|266=>321|314=>409|n=>n,fun|9=>9|3=>3|4=>4|5=>5|0=>0|46=>176|146=>475|51=>237|n=>n,fun|1=>0|n=>n⟩
theorem Tryz.lays138:bI aA Tryz.b6O:=by
 constructor
 case mixed=>kernel_rfl
 case f138=>exact func443.trans (zC some kR)
 case f143=>exact func446.trans (zC some kR)
 case f195=>exact func444.trans (zC some kR)
 case f217=>exact func242.trans (zC some kR)
 case f218=>exact func445.trans (zC some kR)
 case f219=>exact func380.trans (zC some kR)
 case f224=>exact func265.trans (zC some kR)
 case f225=>exact func266.trans (zC some kR)
 case f266=>exact func321.trans (zC some kR)
 case f267=>exact func392.trans (zC some kR)
 case f314=>exact func409.trans (zC some kR)
 case g1=>kernel_rfl
 iterate 8 exact Go.Sx.uU rfl rfl;exact Go.Sx.uG rfl rfl;exact Go.Sx.uS rfl rfl;exact Go.Sx.uZ rfl rfl
open Go.RowKit Go.Lib in
theorem Tryz.strings_Count_one s c w:
 Calls aA 443 #[.string s,.string ⟨#[c]⟩] w fun e w'=>e= .returned (.int .i64 (Lib.countByte s.data.toList c))∧w'=w:=Any.strings_Count_one Tryz.lays138 s c w
def Tryz.b6g:aB:=⟨fun|189=>46|125=>78|257=>77|128=>135|129=>136|294=>126|295=>127|296=>128|297=>129|298=>130|299=>131|216=>132|300=>133|301=>134|328=>214|329=>215|330=>216|331=>217|332=>218|215=>125|343=>299|n=>n,fun|28=>50|3=>3|46=>176|0=>0|51=>237|53=>239|4=>4|183=>230|182=>229|131=>181|5=>5|9=>9|218=>308|222=>312|228=>372|229=>373|n=>n,fun|n=>n⟩
theorem Tryz.lays189:bJ aA Tryz.b6g:=by
 constructor
 case mixed=>kernel_rfl
 case f125=>exact func78.trans (zC some kR)
 case f128=>exact func135.trans (zC some kR)
 case f129=>exact func136.trans (zC some kR)
 case f189=>exact func46.trans (zC some kR)
 case f215=>exact func125.trans (zC some kR)
 case f216=>exact func132.trans (zC some kR)
 case f257=>exact func77.trans (zC some kR)
 case f294=>exact func126.trans (zC some kR)
 case f295=>exact func127.trans (zC some kR)
 case f296=>exact func128.trans (zC some kR)
 case f297=>exact func129.trans (zC some kR)
 case f298=>exact func130.trans (zC some kR)
 case f299=>exact func131.trans (zC some kR)
 case f300=>exact func133.trans (zC some kR)
 case f301=>exact func134.trans (zC some kR)
 case f328=>exact func214.trans (zC some kR)
 case f329=>exact func215.trans (zC some kR)
 case f330=>exact func216.trans (zC some kR)
 case f331=>exact func217.trans (zC some kR)
 case f332=>exact func218.trans (zC some kR)
 case f343=>exact func299.trans (zC some kR)
 iterate 16 exact Go.Sx.uU rfl rfl;exact Go.Sx.uG rfl rfl;exact Go.Sx.uS rfl rfl;exact Go.Sx.uZ rfl rfl
open Go.Sort Go.RowKit in
theorem Tryz.slices_Sort_int blk off A (zs:List Int) w (N:Holds (aO .i64) w blk off zs.toArray)(G:blk<w.heap.size)(M:zs.length<4611686018427387904):
 Calls aA 46 #[.slice (some ⟨blk,off,none⟩) zs.length A] w fun e w'=>
  e= .returned (.tuple #[])∧∃n os,w'=grow (putRow (aO .i64) (aK w n) blk off (zs.mergeSort fun x y=>decide (x≤y)).toArray) os:=Any.slices_Sort_int Tryz.lays189 blk off A zs w N G M
def Tryz.b6T:aB:=⟨fun|190=>104|125=>78|258=>184|128=>135|129=>136|302=>246|303=>247|304=>248|305=>249|306=>250|307=>251|308=>252|309=>253|310=>254|333=>324|329=>215|330=>216|334=>325|335=>326|336=>327|344=>361|n=>n,fun|31=>118|9=>9|3=>3|46=>176|0=>0|51=>237|53=>239|4=>4|183=>230|182=>229|131=>181|5=>5|218=>308|222=>312|228=>372|229=>373|n=>n,fun|n=>n⟩
theorem Tryz.lays190:bK aA Tryz.b6T:=by
 constructor
 case mixed=>kernel_rfl
 case f125=>exact func78.trans (zC some kR)
 case f128=>exact func135.trans (zC some kR)
 case f129=>exact func136.trans (zC some kR)
 case f190=>exact func104.trans (zC some kR)
 case f258=>exact func184.trans (zC some kR)
 case f302=>exact func246.trans (zC some kR)
 case f303=>exact func247.trans (zC some kR)
 case f304=>exact func248.trans (zC some kR)
 case f305=>exact func249.trans (zC some kR)
 case f306=>exact func250.trans (zC some kR)
 case f307=>exact func251.trans (zC some kR)
 case f308=>exact func252.trans (zC some kR)
 case f309=>exact func253.trans (zC some kR)
 case f310=>exact func254.trans (zC some kR)
 case f329=>exact func215.trans (zC some kR)
 case f330=>exact func216.trans (zC some kR)
 case f333=>exact func324.trans (zC some kR)
 case f334=>exact func325.trans (zC some kR)
 case f335=>exact func326.trans (zC some kR)
 case f336=>exact func327.trans (zC some kR)
 case f344=>exact func361.trans (zC some kR)
 iterate 16 exact Go.Sx.uU rfl rfl;exact Go.Sx.uG rfl rfl;exact Go.Sx.uS rfl rfl;exact Go.Sx.uZ rfl rfl
open Go.Sort Go.RowKit in
theorem Tryz.slices_Sort_string blk off A (ss:List (List UInt8)) w (N:Holds encStr w blk off ss.toArray)(G:blk<w.heap.size)(M:ss.length<4611686018427387904):
 Calls aA 104 #[.slice (some ⟨blk,off,none⟩) ss.length A] w fun e w'=>
  e= .returned (.tuple #[])∧∃n os,w'=grow (putRow encStr (aK w n) blk off (ss.mergeSort fun x y=>decide (x≤y)).toArray) os:=Any.slices_Sort_string Tryz.lays190 blk off A ss w N G M
def Tryz.lays99_ren:aB:=⟨fun|99=>62|206=>106|n=>n,fun|9=>9|4=>4|3=>3|n=>n,fun|n=>n⟩
theorem Tryz.lays99:dB aA Tryz.lays99_ren:=by
 constructor
 case mixed=>kernel_rfl
 case f99=>exact func62.trans (zC some kR)
 case f206=>exact func106.trans (zC some kR)
 iterate 3 exact Go.Sx.uU rfl rfl;exact Go.Sx.uG rfl rfl;exact Go.Sx.uS rfl rfl;exact Go.Sx.uZ rfl rfl
open Go.RowKit Go.Lib in
theorem Tryz.strings_HasPrefix s p w:
 Calls aA 62 #[.string s,.string p] w fun e w'=>e= .returned (.bool (Lib.hasPrefix s.data.toList p.data.toList))∧w'=w:=Any.strings_HasPrefix Tryz.lays99 s p w
def Tryz.lays157_ren:aB:=⟨fun|157=>367|229=>305|199=>382|261=>401|311=>413|312=>414|n=>n,fun|9=>9|31=>118|3=>3|5=>5|4=>4|119=>418|0=>0|40=>263|152=>402|21=>21|154=>404|51=>237|141=>471|196=>482|193=>479|198=>485|49=>483|194=>480|201=>488|226=>491|46=>176|227=>492|n=>n,fun|0=>4|6=>5|n=>n⟩
theorem Tryz.lays157:bM aA Tryz.lays157_ren:=by
 constructor
 case mixed=>kernel_rfl
 case f157=>exact func367.trans (zC some kR)
 case f199=>exact func382.trans (zC some kR)
 case f229=>exact func305.trans (zC some kR)
 case f261=>exact func401.trans (zC some kR)
 case f311=>exact func413.trans (zC some kR)
 case f312=>exact func414.trans (zC some kR)
 case g0=>kernel_rfl
 case g6=>kernel_rfl
 iterate 11 exact Go.Sx.uU rfl rfl;exact Go.Sx.uG rfl rfl;exact Go.Sx.uS rfl rfl;exact Go.Sx.uZ rfl rfl
 exact Go.Sx.uU rfl rfl;exact Go.Sx.uG rfl rfl;exact Go.Sx.uS rfl rfl
 iterate 10 exact Go.Sx.uU rfl rfl;exact Go.Sx.uG rfl rfl;exact Go.Sx.uS rfl rfl;exact Go.Sx.uZ rfl rfl
def Tryz.lays152_ren:aB:=⟨fun|152=>191|137=>175|119=>264|224=>265|225=>266|217=>242|266=>321|n=>n,fun|9=>9|21=>21|3=>3|4=>4|5=>5|0=>0|46=>176|n=>n,fun|n=>n⟩
theorem Tryz.lays152:bP aA Tryz.lays152_ren:=by
 constructor
 case mixed=>kernel_rfl
 case f119=>exact func264.trans (zC some kR)
 case f137=>exact func175.trans (zC some kR)
 case f152=>exact func191.trans (zC some kR)
 case f217=>exact func242.trans (zC some kR)
 case f224=>exact func265.trans (zC some kR)
 case f225=>exact func266.trans (zC some kR)
 case f266=>exact func321.trans (zC some kR)
 iterate 7 exact Go.Sx.uU rfl rfl;exact Go.Sx.uG rfl rfl;exact Go.Sx.uS rfl rfl;exact Go.Sx.uZ rfl rfl
open Go.RowKit Go.Lib in
theorem Tryz.strings_IndexRune_ascii s r w (h0:0≤r)(h1:r<128):
 Calls aA 191 #[.string s,.int .i32 r] w fun e w'=>e= .returned (.int .i64 (aI s.data.toList r.toNat.toUInt8))∧w'=w:=Any.strings_IndexRune_ascii Tryz.lays152 s r w h0 h1
def Tryz.lays151_ren:aB:=⟨fun|151=>166|152=>191|137=>175|119=>264|224=>265|225=>266|217=>242|266=>321|n=>n,fun|9=>9|21=>21|4=>4|3=>3|5=>5|0=>0|46=>176|n=>n,fun|n=>n⟩
theorem Tryz.lays151:bQ aA Tryz.lays151_ren:=by
 constructor
 case mixed=>kernel_rfl
 case f119=>exact func264.trans (zC some kR)
 case f137=>exact func175.trans (zC some kR)
 case f151=>exact func166.trans (zC some kR)
 case f152=>exact func191.trans (zC some kR)
 case f217=>exact func242.trans (zC some kR)
 case f224=>exact func265.trans (zC some kR)
 case f225=>exact func266.trans (zC some kR)
 case f266=>exact func321.trans (zC some kR)
 iterate 7 exact Go.Sx.uU rfl rfl;exact Go.Sx.uG rfl rfl;exact Go.Sx.uS rfl rfl;exact Go.Sx.uZ rfl rfl
open Go.RowKit Go.Lib in
theorem Tryz.strings_ContainsRune_ascii s r w (h0:0≤r)(h1:r<128):
 Calls aA 166 #[.string s,.int .i32 r] w fun e w'=>e= .returned (.bool (decide (0≤aI s.data.toList r.toNat.toUInt8)))∧w'=w:=Any.strings_ContainsRune_ascii Tryz.lays151 s r w h0 h1
def Tryz.b6v:aB:=⟨fun|226=>192|n=>n,fun|3=>3|4=>4|n=>n,fun|n=>n⟩
theorem Tryz.c8w:bT aA Tryz.b6v:=by
 constructor
 case mixed=>kernel_rfl
 case f226=>exact func192.trans (zC some kR)
 iterate 2 exact Go.Sx.uU rfl rfl;exact Go.Sx.uG rfl rfl;exact Go.Sx.uS rfl rfl;exact Go.Sx.uZ rfl rfl
open Go.RowKit Go.Lib in
theorem Tryz.strings_shouldUseASCIISet n w:
 Calls aA 192 #[.int .i64 n] w fun e w'=>e= .returned (.bool (decide (8<n)))∧w'=w:=Any.strings_shouldUseASCIISet Tryz.c8w n w
def Tryz.lays153_ren:aB:=⟨fun|153=>113|152=>191|226=>192|227=>188|228=>193|137=>175|119=>264|224=>265|225=>266|217=>242|266=>321|n=>n,fun|9=>9|3=>3|4=>4|5=>5|21=>21|117=>289|116=>288|0=>0|46=>176|124=>292|n=>n,fun|n=>n⟩
theorem Tryz.lays153:bU aA Tryz.lays153_ren:=by
 constructor
 case mixed=>kernel_rfl
 case f119=>exact func264.trans (zC some kR)
 case f137=>exact func175.trans (zC some kR)
 case f152=>exact func191.trans (zC some kR)
 case f153=>exact func113.trans (zC some kR)
 case f217=>exact func242.trans (zC some kR)
 case f224=>exact func265.trans (zC some kR)
 case f225=>exact func266.trans (zC some kR)
 case f226=>exact func192.trans (zC some kR)
 case f227=>exact func188.trans (zC some kR)
 case f228=>exact func193.trans (zC some kR)
 case f266=>exact func321.trans (zC some kR)
 iterate 7 exact Go.Sx.uU rfl rfl;exact Go.Sx.uG rfl rfl;exact Go.Sx.uS rfl rfl;exact Go.Sx.uZ rfl rfl
 exact Go.Sx.uU rfl rfl;exact Go.Sx.uG rfl rfl;exact Go.Sx.uS rfl rfl
 iterate 2 exact Go.Sx.uU rfl rfl;exact Go.Sx.uG rfl rfl;exact Go.Sx.uS rfl rfl;exact Go.Sx.uZ rfl rfl
open Go.RowKit Go.Lib in
theorem Tryz.strings_IndexAny_long(M:∀w,(zeroValue 288).run aA w= .ok (.agg (Array.replicate 256 (.bool false))) w) s A w (h2:2≤A.size)(O:8<s.size)(Q:s.size<4294967281)(N:A.size<4294967281)(G:∀(j:Nat) b,A.data.toList[j]?=some b→b.toNat<128):
 Calls aA 113 #[.string s,.string A] w fun e w'=>e= .returned (.int .i64 (Lib.indexAny s.data.toList A.data.toList))∧w'=((w.alloc (.cells (Lib.setCells A.data.toList) 288)).alloc (.cells (Lib.setCells A.data.toList) 288)):=Any.strings_IndexAny_long Tryz.lays153 M kR s A w h2 O Q N G
def Tryz.a6Q:aB:=⟨fun|260=>331|n=>n,fun|9=>9|21=>21|3=>3|4=>4|5=>5|119=>418|0=>0|46=>176|139=>429|138=>428|n=>n,fun|3=>2|4=>3|n=>n⟩
theorem Tryz.lays260:bV aA Tryz.a6Q:=by
 constructor
 case mixed=>kernel_rfl
 case f260=>exact func331.trans (zC some kR)
 case g3=>kernel_rfl
 case g4=>kernel_rfl
 iterate 7 exact Go.Sx.uU rfl rfl;exact Go.Sx.uG rfl rfl;exact Go.Sx.uS rfl rfl;exact Go.Sx.uZ rfl rfl
 exact Go.Sx.uU rfl rfl;exact Go.Sx.uG rfl rfl;exact Go.Sx.uS rfl rfl
 iterate 2 exact Go.Sx.uU rfl rfl;exact Go.Sx.uG rfl rfl;exact Go.Sx.uS rfl rfl;exact Go.Sx.uZ rfl rfl
open Go.RowKit Go.Lib in
theorem Tryz.strings_Fields_any s w (M:s.size<4294967281)(G:Lib.TabIs aA w "strings.asciiSpace" .u8 Lib.asciiSpaceTab)(N:Lib.WhiteTab 5 w):
 Calls aA 367 #[.string s] w fun e w'=>∃A,e= .returned (.slice (some ⟨A,0,none⟩) (aF s.data.toList).length (aF s.data.toList).length)∧w.heap.size≤A∧
  w'.ownsRow w.heap.size 9 1 (.slice (some ⟨A,0,none⟩) (aF s.data.toList).length (aF s.data.toList).length) (aF s.data.toList).length ((aF s.data.toList).map fun x=>aU ⟨x.toArray⟩)∧Below w.heap.size w w':=Any.strings_Fields_any Tryz.lays157 kR kR kR s w M G N
def Tryz.b6A:aB:=⟨fun|229=>305|n=>n,fun|9=>9|40=>263|31=>118|152=>402|3=>3|0=>0|4=>4|21=>21|154=>404|n=>n,fun|n=>n⟩
theorem Tryz.c8C:bW aA Tryz.b6A:=by
 constructor
 case mixed=>kernel_rfl
 case f229=>exact func305.trans (zC some kR)
 iterate 9 exact Go.Sx.uU rfl rfl;exact Go.Sx.uG rfl rfl;exact Go.Sx.uS rfl rfl;exact Go.Sx.uZ rfl rfl
def Tryz.a6W:aB:=⟨fun|230=>237|197=>263|118=>311|165=>236|166=>180|168=>312|270=>313|167=>194|169=>182|260=>331|240=>245|241=>310|242=>351|276=>323|277=>350|278=>370|n=>n,fun|107=>325|9=>9|72=>277|0=>0|4=>4|3=>3|21=>21|105=>355|76=>281|5=>5|75=>280|70=>275|20=>20|37=>268|127=>344|119=>418|46=>176|139=>429|138=>428|164=>386|51=>237|80=>34|n=>n,fun|3=>2|4=>3|n=>n⟩
theorem Tryz.c9g:bY aA Tryz.a6W:=by
 constructor
 case mixed=>kernel_rfl
 case f118=>exact func311.trans (zC some kR)
 case f165=>exact func236.trans (zC some kR)
 case f166=>exact func180.trans (zC some kR)
 case f167=>exact func194.trans (zC some kR)
 case f168=>exact func312.trans (zC some kR)
 case f169=>exact func182.trans (zC some kR)
 case f197=>exact func263.trans (zC some kR)
 case f230=>exact func237.trans (zC some kR)
 case f240=>exact func245.trans (zC some kR)
 case f241=>exact func310.trans (zC some kR)
 case f242=>exact func351.trans (zC some kR)
 case f260=>exact func331.trans (zC some kR)
 case f270=>exact func313.trans (zC some kR)
 case f276=>exact func323.trans (zC some kR)
 case f277=>exact func350.trans (zC some kR)
 case f278=>exact func370.trans (zC some kR)
 case g3=>kernel_rfl
 case g4=>kernel_rfl
 iterate 16 exact Go.Sx.uU rfl rfl;exact Go.Sx.uG rfl rfl;exact Go.Sx.uS rfl rfl;exact Go.Sx.uZ rfl rfl
 exact Go.Sx.uU rfl rfl;exact Go.Sx.uG rfl rfl;exact Go.Sx.uS rfl rfl
 iterate 4 exact Go.Sx.uU rfl rfl;exact Go.Sx.uG rfl rfl;exact Go.Sx.uS rfl rfl;exact Go.Sx.uZ rfl rfl
theorem Tryz.a6H:aN aA Tryz.a6W:={
 sizeBuilder:=kR
 liesBuilder:=kR
 t5:=underlying5
 a5:=isAgg5
 z5:=sizeOf5
 v5:=zeroValue5
 infoByte:=kR
 cellsByte:=kR
 sizeByte:=kR
 neB5:=by decide }
open Go.RowKit Go.Lib in
theorem Tryz.strings_FieldsFunc_grows g lb (eg:∀args w,(callFunc g args).run aA w= .ok (.enter g args) w) p s w (G:s.size≤4294967296)(M:PredGrows aA g lb p w):
 Calls aA 305 #[.string s,.func (.func g) #[] lb] w fun e w'=>∃A,e= .returned (.slice (some ⟨A,0,none⟩) (aC p s).length (aC p s).length)∧w.heap.size≤A∧
  w'.ownsRow w.heap.size 9 1 (.slice (some ⟨A,0,none⟩) (aC p s).length (aC p s).length) (aC p s).length ((aC p s).map aU)∧Below w.heap.size w w':=Any.strings_FieldsFunc_grows Tryz.c8C g lb eg p s w G M kR kR
open Go.RowKit Go.Lib in
theorem Tryz.strings_Map_grows g lb (eg:∀args w,(callFunc g args).run aA w= .ok (.enter g args) w) f s w (G:s.size<35184372088832)(M:MapGrows aA g lb f w)(A:∀x:Nat,x≤1114111→ -2147483648≤f x∧f x≤2147483647)(N:Lib.Utf8Tabs 2 3 w):
 Calls aA 237 #[.func (.func g) #[] lb,.string s] w fun e w'=>e= .returned (.string ⟨(Lib.mapD f s.data.toList).toArray⟩)∧Below w.heap.size w w':=Any.strings_Map_grows Tryz.c9g Tryz.a6H g lb eg f s w G M A N
def Tryz.lays109_ren:aB:=⟨fun|109=>201|n=>n,fun|31=>118|9=>9|3=>3|0=>0|4=>4|n=>n,fun|n=>n⟩
theorem Tryz.lays109:bZ aA Tryz.lays109_ren:=by
 constructor
 case mixed=>kernel_rfl
 case f109=>exact func201.trans (zC some kR)
 iterate 5 exact Go.Sx.uU rfl rfl;exact Go.Sx.uG rfl rfl;exact Go.Sx.uS rfl rfl;exact Go.Sx.uZ rfl rfl
open Go.Lib in
theorem Tryz.slices_Index_string b off n c (zs:List ByteArray) x w (G:n≤zs.length)(A:n≤9223372036854775807)(M:∀j,j<zs.length→w.cell? ⟨b,off+j,none⟩=some (.string (zs.getD j aQ))):
 Calls aA 201 #[.slice (some ⟨b,off,none⟩) n c,.string x] w fun e w'=>e= .returned (.int .i64 (Lib.idxOfS (zs.take n) x))∧w'=w:=Any.slices_Index_string Tryz.lays109 b off n c zs x w G A M
def Tryz.lays110_ren:aB:=⟨fun|110=>199|109=>201|n=>n,fun|31=>118|9=>9|4=>4|3=>3|0=>0|n=>n,fun|n=>n⟩
theorem Tryz.lays110:cO aA Tryz.lays110_ren:=by
 constructor
 case mixed=>kernel_rfl
 case f109=>exact func201.trans (zC some kR)
 case f110=>exact func199.trans (zC some kR)
 iterate 5 exact Go.Sx.uU rfl rfl;exact Go.Sx.uG rfl rfl;exact Go.Sx.uS rfl rfl;exact Go.Sx.uZ rfl rfl
open Go.Lib in
theorem Tryz.slices_Contains_string b off n c (zs:List ByteArray) x w (G:n≤zs.length)(A:n≤9223372036854775807)(M:∀j,j<zs.length→w.cell? ⟨b,off+j,none⟩=some (.string (zs.getD j aQ))):
 Calls aA 199 #[.slice (some ⟨b,off,none⟩) n c,.string x] w fun e w'=>e= .returned (.bool (Lib.containsS (zs.take n) x))∧w'=w:=Any.slices_Contains_string Tryz.lays110 b off n c zs x w G A M
def Tryz.b3f:aB:=⟨fun|20=>47|n=>n,fun|22=>50|3=>3|4=>4|0=>0|n=>n,fun|n=>n⟩
theorem Tryz.b2c:cZ aA Tryz.b3f:=by
 constructor
 case mixed=>kernel_rfl
 case f20=>exact func47.trans (zC some kR)
 case i3=>kernel_rfl
 iterate 4 exact Go.Sx.uU rfl rfl;exact Go.Sx.uG rfl rfl;exact Go.Sx.uS rfl rfl;exact Go.Sx.uZ rfl rfl
open Go.RowKit Go.Lib Go.Sort in
theorem Tryz.slices_Compact_int blk off A zs w (N:Holds (aO .i64) w blk off zs.toArray)(M:zs.length≤9223372036854775807)(G:zs.length≤A):
 Calls aA 47 #[.slice (some ⟨blk,off,none⟩) zs.length A] w fun e w'=>e= .returned (.slice (some ⟨blk,off,none⟩) (aG zs).length A)∧∃q,w'=putRow (aO .i64) (aK w q) blk off (aG zs++aT (zs.length-(aG zs).length) 0).toArray:=Any.slices_Compact_int Tryz.b2c blk off A zs w N M G
open Go.RowKit Go.Lib Go.Sort in
theorem Tryz.slices_Compact_int_empty a A w:
 Calls aA 47 #[.slice a 0 A] w fun e w'=>e= .returned (.slice a 0 A)∧w'=w:=Any.slices_Compact_int_empty Tryz.b2c a A w
def Tryz.lays194_ren:aB:=⟨fun|194=>105|n=>n,fun|31=>118|9=>9|3=>3|4=>4|0=>0|n=>n,fun|n=>n⟩
theorem Tryz.lays194:dA aA Tryz.lays194_ren:=by
 constructor
 case mixed=>kernel_rfl
 case f194=>exact func105.trans (zC some kR)
 iterate 5 exact Go.Sx.uU rfl rfl;exact Go.Sx.uG rfl rfl;exact Go.Sx.uS rfl rfl;exact Go.Sx.uZ rfl rfl
open Go.RowKit Go.Lib Go.Sort in
theorem Tryz.slices_Compact_string blk off A zs w (N:Holds encStr w blk off zs.toArray)(M:zs.length≤9223372036854775807)(G:zs.length≤A):
 Calls aA 105 #[.slice (some ⟨blk,off,none⟩) zs.length A] w fun e w'=>e= .returned (.slice (some ⟨blk,off,none⟩) (aG zs).length A)∧∃q,w'=putRow encStr (aK w q) blk off (aG zs++aT (zs.length-(aG zs).length) []).toArray:=Any.slices_Compact_string Tryz.lays194 blk off A zs w N M G
open Go.RowKit Go.Lib Go.Sort in
theorem Tryz.slices_Compact_string_empty a A w:
 Calls aA 105 #[.slice a 0 A] w fun e w'=>e= .returned (.slice a 0 A)∧w'=w:=Any.slices_Compact_string_empty Tryz.lays194 a A w
open Go.RowKit Go.Sort in
theorem Tryz.slices_Sort_string_none p A w:
 Calls aA 104 #[.slice p 0 A] w fun e w'=>e= .returned (.tuple #[])∧w'=w:=Any.slices_Sort_string_none Tryz.lays190 p A w
open Go.RowKit Go.Sort in
theorem Tryz.slices_Sort_int_none p A w:
 Calls aA 46 #[.slice p 0 A] w fun e w'=>e= .returned (.tuple #[])∧w'=w:=Any.slices_Sort_int_none Tryz.lays189 p A w
def Tryz.a5M:aB:=⟨fun|41=>45|n=>n,fun|22=>50|23=>3|4=>4|n=>n,fun|n=>n⟩
theorem Tryz.a3d:aV aA Tryz.a5M:=by
 constructor
 case mixed=>kernel_rfl
 case f41=>exact⟨Tryz.f45.name,dE,func45.trans (zC some kR)⟩
 iterate 2 exact Go.Sx.uU rfl rfl;exact Go.Sx.uG rfl rfl;exact Go.Sx.uS rfl rfl;exact Go.Sx.uZ rfl rfl
open Go.RowKit Go.Lib in
theorem Tryz.slices_Clone M z size G (hi:aA.info? 3=some M)(Q:M.zero=some z)(Z:M.size=size)(a0:M.bytes=G)(a1:z.cells.size=size)(a2:0<size)(a3:∀w,(Go.sizeOf 3).run aA w= .ok size w) b off n c A w (hl:A.length=n*size)(hn:n≤maxLen)(N:n*G≤140737488355328)(hc:∀j u,A[j]?=some u→w.cell? ⟨b,off+j,none⟩=some u)(h1:∀u∈A,u.oneCell'=true):
 Calls aA 45 #[.slice (some ⟨b,off,none⟩) n c] w fun e w'=>∃O,e= .returned O∧w'.ownsRow w.heap.size 3 size O n A∧O≠ .slice none 0 0∧Below w.heap.size w w':=AnyE.slices_Clone Tryz.a3d M z size G hi Q Z a0 a1 a2 a3 b off n c A w hl hn N hc h1
open Go.RowKit Go.Lib in
theorem Tryz.slices_Clone_nil n c w:
 Calls aA 45 #[.slice none n c] w fun e w'=>e= .returned (.slice none 0 0)∧w'=w:=AnyE.slices_Clone_nil Tryz.a3d n c w
end Go.Proofs
section
namespace Go.Sx
theorem c7G l:(DJ l).all aH=true:=by simp[DJ,u8,aH]
theorem c6U x sp:(DJ x++sp).take (x.length*1)=DJ x:=by rw[Nat.mul_one,←NT x];exact List.take_left
end Go.Sx
namespace Go.Proofs.YtalapkjmkjmpjaaGreatDoor
open Go Go.Sx
theorem a9F{G o e}{S:World→Prop}{x y}{T E b off n c sz j:Nat}{kl}(M:o.op= .slice T x (some y) none none)(N:ev e x=some (.slice (some ⟨b,off,Option.none⟩) n c))(O:ev e y=some (.int kl (j:Int)))(Q:G.P.underlying T=some (.slice E))(A:∀w,(sizeOf E).run G.P w= .ok sz w)(hj:j≤n)(hc:j≤c):
 BN G o e S (.slice (some ⟨b,if c=j then off else off+j*sz,none⟩) (n-j) (c-j)):=by
 by_cases h:c=j
 ·intro a w Z _;have h1:(j:Int)≤n:=oM;simp[execOp,M,Z.eval N,Z.eval O,Instr.sliceAt,Instr.slice,run_underlying Q,Instr.sliceBounds,run_sliceBound,h1,A,h]
 rw[zD h];exact b4L M N O Q A hj oM
theorem AX.none{α:Type}{l:List α}{i}(h:i≤l.length):AX l i [] l:=⟨by simpa using h,sI⟩
theorem d0X{E x n}(h:E.length+x.length≤n):AX (buf E n) (if n=E.length then 0 else 0+E.length*1) (DJ x) (buf (E++x) n):=by
 by_cases hc:n=E.length
 ·have:x=[]:=wR.1 oM;subst this;rw[zF hc,yD];exact AX.none (sQ _)
 rw[zD hc,sS,Nat.mul_one];exact c9f h
theorem c6w s c I:Pure aA 443 [str s,str [c]] I (i64 (s.count c)):=
 Pure.of_same (Enters.of Tryz.func443 dE rfl) fun w _=>by
  have h:=Tryz.strings_Count_one ⟨s.toArray⟩ c w;rw[GK]at h;exact h
