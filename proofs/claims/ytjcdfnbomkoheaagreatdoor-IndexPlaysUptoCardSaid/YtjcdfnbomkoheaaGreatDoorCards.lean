/-
  DERIVED. GIVEN WITH THE SEED: THE CARDS: each row of YtjcdfnbomkoheaaGreatDoorRows.lean that lists a variable, with what it lists TIED to the program's text (the seventh form; the later family's looks); each row that meets fmt, with fmt's text TOLD by the authors' own Lean function (tested against real Go, not proved from fmt's source: count such statements apart). THE CARD IS WHAT COUNTS. Prove the row's statement (the work); the ties are given (YtjcdfnbomkoheaaGreatDoorTie.lean); close each card by the builder's one call (the guide's Derived/Test/ToyasCard.lean, 'card_holds'). Laid BY PROGRAM, IN A SANDBOX (cutbox-door.mjs). By AI agents, Wed Nov 11 2026. No macro, syntax, notation, axiom, sorry.
-/
import Derived.Test.YtjcdfnbomkoheaaGreatDoorRows
import GoSem.ClaimSeven
namespace Go.Proofs.YtjcdfnbomkoheaaGreatDoor
namespace Rows

/-- THE TIED CARD OF 'pinakeslaw10.IndexRaw'. -/
def indexRawCard : Claim7 := { stood := { row := indexRawRow, standIns := [], harness := (true, "0c3c2c70ddbe1aec9ebc40c1c0c32a704c3b55f215926b7d4cd30833c44efe1e"), looks := true }, kinds := [], alts := [], laidByText := true, laidKinds := [.data, .pinned, .pinned], laidTests := true, laidLooks := .later }
def IndexRawCardSaid : Prop := Claim7.holds Tryz.pinned (.plain (OpenSpec.ofChange indexRawSpec)) indexRawCard

/-- THE TIED CARD OF 'pinakeslaw10.IndexScans'. -/
def indexScansCard : Claim7 := { stood := { row := indexScansRow, standIns := [], harness := (true, "0c3c2c70ddbe1aec9ebc40c1c0c32a704c3b55f215926b7d4cd30833c44efe1e"), looks := true }, kinds := [], alts := [], laidByText := true, laidKinds := [.data, .pinned, .pinned], laidTests := true, laidLooks := .later }
def IndexScansCardSaid : Prop := Claim7.holds Tryz.pinned (.plain (OpenSpec.ofChange indexScansSpec)) indexScansCard

/-- THE TIED CARD OF 'pinakeslaw10.IndexWords'. -/
def indexWordsCard : Claim7 := { stood := { row := indexWordsRow, standIns := [], harness := (true, "0c3c2c70ddbe1aec9ebc40c1c0c32a704c3b55f215926b7d4cd30833c44efe1e"), looks := true }, kinds := [], alts := [], laidByText := true, laidKinds := [.data, .pinned, .pinned], laidTests := true, laidLooks := .later }
def IndexWordsCardSaid : Prop := Claim7.holds Tryz.pinned (.plain (OpenSpec.ofChange indexWordsSpec)) indexWordsCard

/-- THE TIED CARD OF 'pinakeslaw10.IndexKeeps'. -/
def indexKeepsCard : Claim7 := { stood := { row := indexKeepsRow, standIns := [], harness := (true, "0c3c2c70ddbe1aec9ebc40c1c0c32a704c3b55f215926b7d4cd30833c44efe1e"), looks := true }, kinds := [], alts := [], laidByText := true, laidKinds := [.data, .pinned, .pinned], laidTests := true, laidLooks := .later }
def IndexKeepsCardSaid : Prop := Claim7.holds Tryz.pinned (.plain (OpenSpec.ofChange indexKeepsSpec)) indexKeepsCard

/-- THE TIED CARD OF 'pinakeslaw10.IndexBuilds'. -/
def indexBuildsCard : Claim7 := { stood := { row := indexBuildsRow, standIns := [], harness := (true, "0c3c2c70ddbe1aec9ebc40c1c0c32a704c3b55f215926b7d4cd30833c44efe1e"), looks := true }, kinds := [], alts := [], laidByText := true, laidKinds := [.data, .pinned, .pinned], laidTests := true, laidLooks := .later }
def IndexBuildsCardSaid : Prop := Claim7.holds Tryz.pinned (.plain (OpenSpec.ofChange indexBuildsSpec)) indexBuildsCard

/-- THE TIED CARD OF 'pinakeslaw10.IndexPlays'. -/
def indexPlaysCard : Claim7 := { stood := { row := indexPlaysRow, standIns := [], harness := (true, "0c3c2c70ddbe1aec9ebc40c1c0c32a704c3b55f215926b7d4cd30833c44efe1e"), looks := true }, kinds := [], alts := [], laidByText := true, laidKinds := [.data, .pinned, .pinned], laidTests := true, laidLooks := .later }
def IndexPlaysCardSaid : Prop := Claim7.holds Tryz.pinned (.plain (OpenSpec.ofChange indexPlaysSpec)) indexPlaysCard

/-- THE TIED CARD OF 'pinakeslaw10.IndexAgain'. -/
def indexAgainCard : Claim7 := { stood := { row := indexAgainRow, standIns := [], harness := (true, "0c3c2c70ddbe1aec9ebc40c1c0c32a704c3b55f215926b7d4cd30833c44efe1e"), looks := true }, kinds := [], alts := [], laidByText := true, laidKinds := [.data, .pinned, .pinned], laidTests := true, laidLooks := .later }
def IndexAgainCardSaid : Prop := Claim7.holds Tryz.pinned (.plain (OpenSpec.ofChange indexAgainSpec)) indexAgainCard

/-- THE TIED CARD OF 'pinakeslaw10.IndexSorts'. -/
def indexSortsCard : Claim7 := { stood := { row := indexSortsRow, standIns := [], harness := (true, "0c3c2c70ddbe1aec9ebc40c1c0c32a704c3b55f215926b7d4cd30833c44efe1e"), looks := true }, kinds := [], alts := [], laidByText := true, laidKinds := [.data, .pinned, .pinned], laidTests := true, laidLooks := .later }
def IndexSortsCardSaid : Prop := Claim7.holds Tryz.pinned (.plain (OpenSpec.ofChange indexSortsSpec)) indexSortsCard

/-- THE TIED CARD OF 'pinakeslaw10.IndexDrops'. -/
def indexDropsCard : Claim7 := { stood := { row := indexDropsRow, standIns := [], harness := (true, "0c3c2c70ddbe1aec9ebc40c1c0c32a704c3b55f215926b7d4cd30833c44efe1e"), looks := true }, kinds := [], alts := [], laidByText := true, laidKinds := [.data, .pinned, .pinned], laidTests := true, laidLooks := .later }
def IndexDropsCardSaid : Prop := Claim7.holds Tryz.pinned (.plain (OpenSpec.ofChange indexDropsSpec)) indexDropsCard

/-- THE TIED CARD OF 'pinakeslaw10.IndexNil'. -/
def indexNilCard : Claim7 := { stood := { row := indexNilRow, standIns := [], harness := (true, "0c3c2c70ddbe1aec9ebc40c1c0c32a704c3b55f215926b7d4cd30833c44efe1e"), looks := true }, kinds := [], alts := [], laidByText := true, laidKinds := [.data, .pinned, .pinned], laidTests := true, laidLooks := .later }
def IndexNilCardSaid : Prop := Claim7.holds Tryz.pinned (.plain (OpenSpec.ofChange indexNilSpec)) indexNilCard

/-- THE SECOND FORM's CARD OF 'pinakeslaw10.IndexRaw'. -/
def indexRawUptoCard : Claim7 := { stood := { row := indexRawUptoRow, standIns := [], harness := (true, "0c3c2c70ddbe1aec9ebc40c1c0c32a704c3b55f215926b7d4cd30833c44efe1e"), looks := true }, kinds := [], alts := [], laidByText := true, laidKinds := [.data, .pinned, .pinned], laidTests := true, laidLooks := .later }
def IndexRawUptoCardSaid : Prop := Claim7.holds Tryz.pinned (.plain (OpenSpec.upto indexRawSpec)) indexRawUptoCard

/-- THE SECOND FORM's CARD OF 'pinakeslaw10.IndexScans'. -/
def indexScansUptoCard : Claim7 := { stood := { row := indexScansUptoRow, standIns := [], harness := (true, "0c3c2c70ddbe1aec9ebc40c1c0c32a704c3b55f215926b7d4cd30833c44efe1e"), looks := true }, kinds := [], alts := [], laidByText := true, laidKinds := [.data, .pinned, .pinned], laidTests := true, laidLooks := .later }
def IndexScansUptoCardSaid : Prop := Claim7.holds Tryz.pinned (.plain (OpenSpec.upto indexScansSpec)) indexScansUptoCard

/-- THE SECOND FORM's CARD OF 'pinakeslaw10.IndexWords'. -/
def indexWordsUptoCard : Claim7 := { stood := { row := indexWordsUptoRow, standIns := [], harness := (true, "0c3c2c70ddbe1aec9ebc40c1c0c32a704c3b55f215926b7d4cd30833c44efe1e"), looks := true }, kinds := [], alts := [], laidByText := true, laidKinds := [.data, .pinned, .pinned], laidTests := true, laidLooks := .later }
def IndexWordsUptoCardSaid : Prop := Claim7.holds Tryz.pinned (.plain (OpenSpec.upto indexWordsSpec)) indexWordsUptoCard

/-- THE SECOND FORM's CARD OF 'pinakeslaw10.IndexKeeps'. -/
def indexKeepsUptoCard : Claim7 := { stood := { row := indexKeepsUptoRow, standIns := [], harness := (true, "0c3c2c70ddbe1aec9ebc40c1c0c32a704c3b55f215926b7d4cd30833c44efe1e"), looks := true }, kinds := [], alts := [], laidByText := true, laidKinds := [.data, .pinned, .pinned], laidTests := true, laidLooks := .later }
def IndexKeepsUptoCardSaid : Prop := Claim7.holds Tryz.pinned (.plain (OpenSpec.upto indexKeepsSpec)) indexKeepsUptoCard

/-- THE SECOND FORM's CARD OF 'pinakeslaw10.IndexBuilds'. -/
def indexBuildsUptoCard : Claim7 := { stood := { row := indexBuildsUptoRow, standIns := [], harness := (true, "0c3c2c70ddbe1aec9ebc40c1c0c32a704c3b55f215926b7d4cd30833c44efe1e"), looks := true }, kinds := [], alts := [], laidByText := true, laidKinds := [.data, .pinned, .pinned], laidTests := true, laidLooks := .later }
def IndexBuildsUptoCardSaid : Prop := Claim7.holds Tryz.pinned (.plain (OpenSpec.upto indexBuildsSpec)) indexBuildsUptoCard

/-- THE SECOND FORM's CARD OF 'pinakeslaw10.IndexPlays'. -/
def indexPlaysUptoCard : Claim7 := { stood := { row := indexPlaysUptoRow, standIns := [], harness := (true, "0c3c2c70ddbe1aec9ebc40c1c0c32a704c3b55f215926b7d4cd30833c44efe1e"), looks := true }, kinds := [], alts := [], laidByText := true, laidKinds := [.data, .pinned, .pinned], laidTests := true, laidLooks := .later }
def IndexPlaysUptoCardSaid : Prop := Claim7.holds Tryz.pinned (.plain (OpenSpec.upto indexPlaysSpec)) indexPlaysUptoCard

/-- THE SECOND FORM's CARD OF 'pinakeslaw10.IndexAgain'. -/
def indexAgainUptoCard : Claim7 := { stood := { row := indexAgainUptoRow, standIns := [], harness := (true, "0c3c2c70ddbe1aec9ebc40c1c0c32a704c3b55f215926b7d4cd30833c44efe1e"), looks := true }, kinds := [], alts := [], laidByText := true, laidKinds := [.data, .pinned, .pinned], laidTests := true, laidLooks := .later }
def IndexAgainUptoCardSaid : Prop := Claim7.holds Tryz.pinned (.plain (OpenSpec.upto indexAgainSpec)) indexAgainUptoCard

/-- THE SECOND FORM's CARD OF 'pinakeslaw10.IndexSorts'. -/
def indexSortsUptoCard : Claim7 := { stood := { row := indexSortsUptoRow, standIns := [], harness := (true, "0c3c2c70ddbe1aec9ebc40c1c0c32a704c3b55f215926b7d4cd30833c44efe1e"), looks := true }, kinds := [], alts := [], laidByText := true, laidKinds := [.data, .pinned, .pinned], laidTests := true, laidLooks := .later }
def IndexSortsUptoCardSaid : Prop := Claim7.holds Tryz.pinned (.plain (OpenSpec.upto indexSortsSpec)) indexSortsUptoCard

/-- THE SECOND FORM's CARD OF 'pinakeslaw10.IndexDrops'. -/
def indexDropsUptoCard : Claim7 := { stood := { row := indexDropsUptoRow, standIns := [], harness := (true, "0c3c2c70ddbe1aec9ebc40c1c0c32a704c3b55f215926b7d4cd30833c44efe1e"), looks := true }, kinds := [], alts := [], laidByText := true, laidKinds := [.data, .pinned, .pinned], laidTests := true, laidLooks := .later }
def IndexDropsUptoCardSaid : Prop := Claim7.holds Tryz.pinned (.plain (OpenSpec.upto indexDropsSpec)) indexDropsUptoCard

/-- THE SECOND FORM's CARD OF 'pinakeslaw10.IndexNil'. -/
def indexNilUptoCard : Claim7 := { stood := { row := indexNilUptoRow, standIns := [], harness := (true, "0c3c2c70ddbe1aec9ebc40c1c0c32a704c3b55f215926b7d4cd30833c44efe1e"), looks := true }, kinds := [], alts := [], laidByText := true, laidKinds := [.data, .pinned, .pinned], laidTests := true, laidLooks := .later }
def IndexNilUptoCardSaid : Prop := Claim7.holds Tryz.pinned (.plain (OpenSpec.upto indexNilSpec)) indexNilUptoCard
end Rows
end Go.Proofs.YtjcdfnbomkoheaaGreatDoor
