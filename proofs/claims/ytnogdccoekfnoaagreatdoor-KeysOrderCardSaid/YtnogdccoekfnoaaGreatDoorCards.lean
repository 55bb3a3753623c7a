/-
  DERIVED. GIVEN WITH THE SEED: THE CARDS: each row of YtnogdccoekfnoaaGreatDoorRows.lean that lists a variable, with what it lists TIED to the program's text (the seventh form; the later family's looks); each row that meets fmt, with fmt's text TOLD by the authors' own Lean function (tested against real Go, not proved from fmt's source: count such statements apart). THE CARD IS WHAT COUNTS. Prove the row's statement (the work); the ties are given (YtnogdccoekfnoaaGreatDoorTie.lean); close each card by the builder's one call (the guide's Derived/Test/ToyasCard.lean, 'card_holds'). Laid BY PROGRAM, IN A SANDBOX (cutbox-door.mjs). By AI agents, Wed Nov 11 2026. No macro, syntax, notation, axiom, sorry.
-/
import Derived.Test.YtnogdccoekfnoaaGreatDoorRows
import GoSem.ClaimSeven
namespace Go.Proofs.YtnogdccoekfnoaaGreatDoor
namespace Rows

/-- THE TIED CARD OF 'pinakeslaw05.KeysFolds'. -/
def keysFoldsCard : Claim7 := { stood := { row := keysFoldsRow, standIns := [], harness := (true, "9ea696c86a226d4d1460f6bff05e1679bfeab642de4333ea16d2dbd4107fffc8"), looks := true }, kinds := [], alts := [], laidByText := true, laidKinds := [.data, .pinned, .pinned], laidTests := true, laidLooks := .later }
def KeysFoldsCardSaid : Prop := Claim7.holds Tryz.pinned (.plain (OpenSpec.ofChange keysFoldsSpec)) keysFoldsCard

/-- THE TIED CARD OF 'pinakeslaw05.KeysChars'. -/
def keysCharsCard : Claim7 := { stood := { row := keysCharsRow, standIns := [], harness := (true, "9ea696c86a226d4d1460f6bff05e1679bfeab642de4333ea16d2dbd4107fffc8"), looks := true }, kinds := [], alts := [], laidByText := true, laidKinds := [.data, .pinned, .pinned], laidTests := true, laidLooks := .later }
def KeysCharsCardSaid : Prop := Claim7.holds Tryz.pinned (.plain (OpenSpec.ofChange keysCharsSpec)) keysCharsCard

/-- THE TIED CARD OF 'pinakeslaw05.KeysTwice'. -/
def keysTwiceCard : Claim7 := { stood := { row := keysTwiceRow, standIns := [], harness := (true, "9ea696c86a226d4d1460f6bff05e1679bfeab642de4333ea16d2dbd4107fffc8"), looks := true }, kinds := [], alts := [], laidByText := true, laidKinds := [.data, .pinned, .pinned], laidTests := true, laidLooks := .later }
def KeysTwiceCardSaid : Prop := Claim7.holds Tryz.pinned (.plain (OpenSpec.ofChange keysTwiceSpec)) keysTwiceCard

/-- THE TIED CARD OF 'pinakeslaw05.KeysWords'. -/
def keysWordsCard : Claim7 := { stood := { row := keysWordsRow, standIns := [], harness := (true, "9ea696c86a226d4d1460f6bff05e1679bfeab642de4333ea16d2dbd4107fffc8"), looks := true }, kinds := [], alts := [], laidByText := true, laidKinds := [.data, .pinned, .pinned], laidTests := true, laidLooks := .later }
def KeysWordsCardSaid : Prop := Claim7.holds Tryz.pinned (.plain (OpenSpec.ofChange keysWordsSpec)) keysWordsCard

/-- THE TIED CARD OF 'pinakeslaw05.KeysSorts'. -/
def keysSortsCard : Claim7 := { stood := { row := keysSortsRow, standIns := [], harness := (true, "9ea696c86a226d4d1460f6bff05e1679bfeab642de4333ea16d2dbd4107fffc8"), looks := true }, kinds := [], alts := [], laidByText := true, laidKinds := [.data, .pinned, .pinned], laidTests := true, laidLooks := .later }
def KeysSortsCardSaid : Prop := Claim7.holds Tryz.pinned (.plain (OpenSpec.ofChange keysSortsSpec)) keysSortsCard

/-- THE TIED CARD OF 'pinakeslaw05.KeysNumbers'. -/
def keysNumbersCard : Claim7 := { stood := { row := keysNumbersRow, standIns := [], harness := (true, "9ea696c86a226d4d1460f6bff05e1679bfeab642de4333ea16d2dbd4107fffc8"), looks := true }, kinds := [], alts := [], laidByText := true, laidKinds := [.data, .pinned, .pinned], laidTests := true, laidLooks := .later }
def KeysNumbersCardSaid : Prop := Claim7.holds Tryz.pinned (.plain (OpenSpec.ofChange keysNumbersSpec)) keysNumbersCard

/-- THE TIED CARD OF 'pinakeslaw05.KeysIsbn'. -/
def keysIsbnCard : Claim7 := { stood := { row := keysIsbnRow, standIns := [], harness := (true, "9ea696c86a226d4d1460f6bff05e1679bfeab642de4333ea16d2dbd4107fffc8"), looks := true }, kinds := [], alts := [], laidByText := true, laidKinds := [.data, .pinned, .pinned], laidTests := true, laidLooks := .later }
def KeysIsbnCardSaid : Prop := Claim7.holds Tryz.pinned (.plain (OpenSpec.ofChange keysIsbnSpec)) keysIsbnCard

/-- THE TIED CARD OF 'pinakeslaw05.KeysTen'. -/
def keysTenCard : Claim7 := { stood := { row := keysTenRow, standIns := [], harness := (true, "9ea696c86a226d4d1460f6bff05e1679bfeab642de4333ea16d2dbd4107fffc8"), looks := true }, kinds := [], alts := [], laidByText := true, laidKinds := [.data, .pinned, .pinned], laidTests := true, laidLooks := .later }
def KeysTenCardSaid : Prop := Claim7.holds Tryz.pinned (.plain (OpenSpec.ofChange keysTenSpec)) keysTenCard

/-- THE TIED CARD OF 'pinakeslaw05.KeysRecords'. -/
def keysRecordsCard : Claim7 := { stood := { row := keysRecordsRow, standIns := [], harness := (true, "9ea696c86a226d4d1460f6bff05e1679bfeab642de4333ea16d2dbd4107fffc8"), looks := true }, kinds := [], alts := [], laidByText := true, laidKinds := [.data, .pinned, .pinned], laidTests := true, laidLooks := .later }
def KeysRecordsCardSaid : Prop := Claim7.holds Tryz.pinned (.plain (OpenSpec.ofChange keysRecordsSpec)) keysRecordsCard

/-- THE TIED CARD OF 'pinakeslaw05.KeysOrder'. -/
def keysOrderCard : Claim7 := { stood := { row := keysOrderRow, standIns := [], harness := (true, "9ea696c86a226d4d1460f6bff05e1679bfeab642de4333ea16d2dbd4107fffc8"), looks := true }, kinds := [], alts := [], laidByText := true, laidKinds := [.data, .pinned, .pinned], laidTests := true, laidLooks := .later }
def KeysOrderCardSaid : Prop := Claim7.holds Tryz.pinned (.plain (OpenSpec.ofChange keysOrderSpec)) keysOrderCard

/-- THE SECOND FORM's CARD OF 'pinakeslaw05.KeysFolds'. -/
def keysFoldsUptoCard : Claim7 := { stood := { row := keysFoldsUptoRow, standIns := [], harness := (true, "9ea696c86a226d4d1460f6bff05e1679bfeab642de4333ea16d2dbd4107fffc8"), looks := true }, kinds := [], alts := [], laidByText := true, laidKinds := [.data, .pinned, .pinned], laidTests := true, laidLooks := .later }
def KeysFoldsUptoCardSaid : Prop := Claim7.holds Tryz.pinned (.plain (OpenSpec.upto keysFoldsSpec)) keysFoldsUptoCard

/-- THE SECOND FORM's CARD OF 'pinakeslaw05.KeysChars'. -/
def keysCharsUptoCard : Claim7 := { stood := { row := keysCharsUptoRow, standIns := [], harness := (true, "9ea696c86a226d4d1460f6bff05e1679bfeab642de4333ea16d2dbd4107fffc8"), looks := true }, kinds := [], alts := [], laidByText := true, laidKinds := [.data, .pinned, .pinned], laidTests := true, laidLooks := .later }
def KeysCharsUptoCardSaid : Prop := Claim7.holds Tryz.pinned (.plain (OpenSpec.upto keysCharsSpec)) keysCharsUptoCard

/-- THE SECOND FORM's CARD OF 'pinakeslaw05.KeysTwice'. -/
def keysTwiceUptoCard : Claim7 := { stood := { row := keysTwiceUptoRow, standIns := [], harness := (true, "9ea696c86a226d4d1460f6bff05e1679bfeab642de4333ea16d2dbd4107fffc8"), looks := true }, kinds := [], alts := [], laidByText := true, laidKinds := [.data, .pinned, .pinned], laidTests := true, laidLooks := .later }
def KeysTwiceUptoCardSaid : Prop := Claim7.holds Tryz.pinned (.plain (OpenSpec.upto keysTwiceSpec)) keysTwiceUptoCard

/-- THE SECOND FORM's CARD OF 'pinakeslaw05.KeysWords'. -/
def keysWordsUptoCard : Claim7 := { stood := { row := keysWordsUptoRow, standIns := [], harness := (true, "9ea696c86a226d4d1460f6bff05e1679bfeab642de4333ea16d2dbd4107fffc8"), looks := true }, kinds := [], alts := [], laidByText := true, laidKinds := [.data, .pinned, .pinned], laidTests := true, laidLooks := .later }
def KeysWordsUptoCardSaid : Prop := Claim7.holds Tryz.pinned (.plain (OpenSpec.upto keysWordsSpec)) keysWordsUptoCard

/-- THE SECOND FORM's CARD OF 'pinakeslaw05.KeysSorts'. -/
def keysSortsUptoCard : Claim7 := { stood := { row := keysSortsUptoRow, standIns := [], harness := (true, "9ea696c86a226d4d1460f6bff05e1679bfeab642de4333ea16d2dbd4107fffc8"), looks := true }, kinds := [], alts := [], laidByText := true, laidKinds := [.data, .pinned, .pinned], laidTests := true, laidLooks := .later }
def KeysSortsUptoCardSaid : Prop := Claim7.holds Tryz.pinned (.plain (OpenSpec.upto keysSortsSpec)) keysSortsUptoCard

/-- THE SECOND FORM's CARD OF 'pinakeslaw05.KeysNumbers'. -/
def keysNumbersUptoCard : Claim7 := { stood := { row := keysNumbersUptoRow, standIns := [], harness := (true, "9ea696c86a226d4d1460f6bff05e1679bfeab642de4333ea16d2dbd4107fffc8"), looks := true }, kinds := [], alts := [], laidByText := true, laidKinds := [.data, .pinned, .pinned], laidTests := true, laidLooks := .later }
def KeysNumbersUptoCardSaid : Prop := Claim7.holds Tryz.pinned (.plain (OpenSpec.upto keysNumbersSpec)) keysNumbersUptoCard

/-- THE SECOND FORM's CARD OF 'pinakeslaw05.KeysIsbn'. -/
def keysIsbnUptoCard : Claim7 := { stood := { row := keysIsbnUptoRow, standIns := [], harness := (true, "9ea696c86a226d4d1460f6bff05e1679bfeab642de4333ea16d2dbd4107fffc8"), looks := true }, kinds := [], alts := [], laidByText := true, laidKinds := [.data, .pinned, .pinned], laidTests := true, laidLooks := .later }
def KeysIsbnUptoCardSaid : Prop := Claim7.holds Tryz.pinned (.plain (OpenSpec.upto keysIsbnSpec)) keysIsbnUptoCard

/-- THE SECOND FORM's CARD OF 'pinakeslaw05.KeysTen'. -/
def keysTenUptoCard : Claim7 := { stood := { row := keysTenUptoRow, standIns := [], harness := (true, "9ea696c86a226d4d1460f6bff05e1679bfeab642de4333ea16d2dbd4107fffc8"), looks := true }, kinds := [], alts := [], laidByText := true, laidKinds := [.data, .pinned, .pinned], laidTests := true, laidLooks := .later }
def KeysTenUptoCardSaid : Prop := Claim7.holds Tryz.pinned (.plain (OpenSpec.upto keysTenSpec)) keysTenUptoCard

/-- THE SECOND FORM's CARD OF 'pinakeslaw05.KeysRecords'. -/
def keysRecordsUptoCard : Claim7 := { stood := { row := keysRecordsUptoRow, standIns := [], harness := (true, "9ea696c86a226d4d1460f6bff05e1679bfeab642de4333ea16d2dbd4107fffc8"), looks := true }, kinds := [], alts := [], laidByText := true, laidKinds := [.data, .pinned, .pinned], laidTests := true, laidLooks := .later }
def KeysRecordsUptoCardSaid : Prop := Claim7.holds Tryz.pinned (.plain (OpenSpec.upto keysRecordsSpec)) keysRecordsUptoCard

/-- THE SECOND FORM's CARD OF 'pinakeslaw05.KeysOrder'. -/
def keysOrderUptoCard : Claim7 := { stood := { row := keysOrderUptoRow, standIns := [], harness := (true, "9ea696c86a226d4d1460f6bff05e1679bfeab642de4333ea16d2dbd4107fffc8"), looks := true }, kinds := [], alts := [], laidByText := true, laidKinds := [.data, .pinned, .pinned], laidTests := true, laidLooks := .later }
def KeysOrderUptoCardSaid : Prop := Claim7.holds Tryz.pinned (.plain (OpenSpec.upto keysOrderSpec)) keysOrderUptoCard
end Rows
end Go.Proofs.YtnogdccoekfnoaaGreatDoor
