/-
  DERIVED. GIVEN WITH THE SEED: THE CARDS: each row of YtlfpehljahgbkaaGreatDoorRows.lean that lists a variable, with what it lists TIED to the program's text (the seventh form; the later family's looks); each row that meets fmt, with fmt's text TOLD by the authors' own Lean function (tested against real Go, not proved from fmt's source: count such statements apart). THE CARD IS WHAT COUNTS. Prove the row's statement (the work); the ties are given (YtlfpehljahgbkaaGreatDoorTie.lean); close each card by the builder's one call (the guide's Derived/Test/ToyasCard.lean, 'card_holds'). Laid BY PROGRAM, IN A SANDBOX (cutbox-door.mjs). By AI agents, Wed Nov 11 2026. No macro, syntax, notation, axiom, sorry.
-/
import Derived.Test.YtlfpehljahgbkaaGreatDoorRows
import GoSem.ClaimSeven
namespace Go.Proofs.YtlfpehljahgbkaaGreatDoor
namespace Rows

/-- THE TIED CARD OF 'pinakeslaw11.CqlParses'. -/
def cqlParsesCard : Claim7 := { stood := { row := cqlParsesRow, standIns := [], harness := (true, "188276da8b5cbb7fe5e8f41884f1b25b106463a6763790685cef23f5a102c6c1"), looks := true }, kinds := [], alts := [], laidByText := true, laidKinds := [.data, .pinned], laidTests := true, laidLooks := .later }
def CqlParsesCardSaid : Prop := Claim7.holds Tryz.pinned (.plain (OpenSpec.ofChange cqlParsesSpec)) cqlParsesCard

/-- THE TIED CARD OF 'pinakeslaw11.CqlBack'. -/
def cqlBackCard : Claim7 := { stood := { row := cqlBackRow, standIns := [], harness := (true, "188276da8b5cbb7fe5e8f41884f1b25b106463a6763790685cef23f5a102c6c1"), looks := true }, kinds := [], alts := [], laidByText := true, laidKinds := [.data, .pinned], laidTests := true, laidLooks := .later }
def CqlBackCardSaid : Prop := Claim7.holds Tryz.pinned (.plain (OpenSpec.ofChange cqlBackSpec)) cqlBackCard

/-- THE TIED CARD OF 'pinakeslaw11.CqlAgain'. -/
def cqlAgainCard : Claim7 := { stood := { row := cqlAgainRow, standIns := [], harness := (true, "188276da8b5cbb7fe5e8f41884f1b25b106463a6763790685cef23f5a102c6c1"), looks := true }, kinds := [], alts := [], laidByText := true, laidKinds := [.data, .pinned], laidTests := true, laidLooks := .later }
def CqlAgainCardSaid : Prop := Claim7.holds Tryz.pinned (.plain (OpenSpec.ofChange cqlAgainSpec)) cqlAgainCard

/-- THE TIED CARD OF 'pinakeslaw11.CqlPrints'. -/
def cqlPrintsCard : Claim7 := { stood := { row := cqlPrintsRow, standIns := [], harness := (true, "188276da8b5cbb7fe5e8f41884f1b25b106463a6763790685cef23f5a102c6c1"), looks := true }, kinds := [], alts := [], laidByText := true, laidKinds := [.data, .pinned], laidTests := true, laidLooks := .later }
def CqlPrintsCardSaid : Prop := Claim7.holds Tryz.pinned (.plain (OpenSpec.ofChange cqlPrintsSpec)) cqlPrintsCard

/-- THE TIED CARD OF 'pinakeslaw11.CqlTexts'. -/
def cqlTextsCard : Claim7 := { stood := { row := cqlTextsRow, standIns := [], harness := (true, "188276da8b5cbb7fe5e8f41884f1b25b106463a6763790685cef23f5a102c6c1"), looks := true }, kinds := [], alts := [], laidByText := true, laidKinds := [.data, .pinned], laidTests := true, laidLooks := .later }
def CqlTextsCardSaid : Prop := Claim7.holds Tryz.pinned (.plain (OpenSpec.ofChange cqlTextsSpec)) cqlTextsCard

/-- THE TIED CARD OF 'pinakeslaw11.CqlBlanks'. -/
def cqlBlanksCard : Claim7 := { stood := { row := cqlBlanksRow, standIns := [], harness := (true, "188276da8b5cbb7fe5e8f41884f1b25b106463a6763790685cef23f5a102c6c1"), looks := true }, kinds := [], alts := [], laidByText := true, laidKinds := [.data, .pinned], laidTests := true, laidLooks := .later }
def CqlBlanksCardSaid : Prop := Claim7.holds Tryz.pinned (.plain (OpenSpec.ofChange cqlBlanksSpec)) cqlBlanksCard

/-- THE TIED CARD OF 'pinakeslaw11.CqlDeep'. -/
def cqlDeepCard : Claim7 := { stood := { row := cqlDeepRow, standIns := [], harness := (true, "188276da8b5cbb7fe5e8f41884f1b25b106463a6763790685cef23f5a102c6c1"), looks := true }, kinds := [], alts := [], laidByText := true, laidKinds := [.data, .pinned], laidTests := true, laidLooks := .later }
def CqlDeepCardSaid : Prop := Claim7.holds Tryz.pinned (.plain (OpenSpec.ofChange cqlDeepSpec)) cqlDeepCard

/-- THE TIED CARD OF 'pinakeslaw11.CqlLeft'. -/
def cqlLeftCard : Claim7 := { stood := { row := cqlLeftRow, standIns := [], harness := (true, "188276da8b5cbb7fe5e8f41884f1b25b106463a6763790685cef23f5a102c6c1"), looks := true }, kinds := [], alts := [], laidByText := true, laidKinds := [.data, .pinned], laidTests := true, laidLooks := .later }
def CqlLeftCardSaid : Prop := Claim7.holds Tryz.pinned (.plain (OpenSpec.ofChange cqlLeftSpec)) cqlLeftCard

/-- THE TIED CARD OF 'pinakeslaw11.CqlChanged'. -/
def cqlChangedCard : Claim7 := { stood := { row := cqlChangedRow, standIns := [], harness := (true, "188276da8b5cbb7fe5e8f41884f1b25b106463a6763790685cef23f5a102c6c1"), looks := true }, kinds := [], alts := [], laidByText := true, laidKinds := [.data, .pinned], laidTests := true, laidLooks := .later }
def CqlChangedCardSaid : Prop := Claim7.holds Tryz.pinned (.plain (OpenSpec.ofChange cqlChangedSpec)) cqlChangedCard

/-- THE SECOND FORM's CARD OF 'pinakeslaw11.CqlParses'. -/
def cqlParsesUptoCard : Claim7 := { stood := { row := cqlParsesUptoRow, standIns := [], harness := (true, "188276da8b5cbb7fe5e8f41884f1b25b106463a6763790685cef23f5a102c6c1"), looks := true }, kinds := [], alts := [], laidByText := true, laidKinds := [.data, .pinned], laidTests := true, laidLooks := .later }
def CqlParsesUptoCardSaid : Prop := Claim7.holds Tryz.pinned (.plain (OpenSpec.upto cqlParsesSpec)) cqlParsesUptoCard

/-- THE SECOND FORM's CARD OF 'pinakeslaw11.CqlBack'. -/
def cqlBackUptoCard : Claim7 := { stood := { row := cqlBackUptoRow, standIns := [], harness := (true, "188276da8b5cbb7fe5e8f41884f1b25b106463a6763790685cef23f5a102c6c1"), looks := true }, kinds := [], alts := [], laidByText := true, laidKinds := [.data, .pinned], laidTests := true, laidLooks := .later }
def CqlBackUptoCardSaid : Prop := Claim7.holds Tryz.pinned (.plain (OpenSpec.upto cqlBackSpec)) cqlBackUptoCard

/-- THE SECOND FORM's CARD OF 'pinakeslaw11.CqlAgain'. -/
def cqlAgainUptoCard : Claim7 := { stood := { row := cqlAgainUptoRow, standIns := [], harness := (true, "188276da8b5cbb7fe5e8f41884f1b25b106463a6763790685cef23f5a102c6c1"), looks := true }, kinds := [], alts := [], laidByText := true, laidKinds := [.data, .pinned], laidTests := true, laidLooks := .later }
def CqlAgainUptoCardSaid : Prop := Claim7.holds Tryz.pinned (.plain (OpenSpec.upto cqlAgainSpec)) cqlAgainUptoCard

/-- THE SECOND FORM's CARD OF 'pinakeslaw11.CqlPrints'. -/
def cqlPrintsUptoCard : Claim7 := { stood := { row := cqlPrintsUptoRow, standIns := [], harness := (true, "188276da8b5cbb7fe5e8f41884f1b25b106463a6763790685cef23f5a102c6c1"), looks := true }, kinds := [], alts := [], laidByText := true, laidKinds := [.data, .pinned], laidTests := true, laidLooks := .later }
def CqlPrintsUptoCardSaid : Prop := Claim7.holds Tryz.pinned (.plain (OpenSpec.upto cqlPrintsSpec)) cqlPrintsUptoCard

/-- THE SECOND FORM's CARD OF 'pinakeslaw11.CqlTexts'. -/
def cqlTextsUptoCard : Claim7 := { stood := { row := cqlTextsUptoRow, standIns := [], harness := (true, "188276da8b5cbb7fe5e8f41884f1b25b106463a6763790685cef23f5a102c6c1"), looks := true }, kinds := [], alts := [], laidByText := true, laidKinds := [.data, .pinned], laidTests := true, laidLooks := .later }
def CqlTextsUptoCardSaid : Prop := Claim7.holds Tryz.pinned (.plain (OpenSpec.upto cqlTextsSpec)) cqlTextsUptoCard

/-- THE SECOND FORM's CARD OF 'pinakeslaw11.CqlBlanks'. -/
def cqlBlanksUptoCard : Claim7 := { stood := { row := cqlBlanksUptoRow, standIns := [], harness := (true, "188276da8b5cbb7fe5e8f41884f1b25b106463a6763790685cef23f5a102c6c1"), looks := true }, kinds := [], alts := [], laidByText := true, laidKinds := [.data, .pinned], laidTests := true, laidLooks := .later }
def CqlBlanksUptoCardSaid : Prop := Claim7.holds Tryz.pinned (.plain (OpenSpec.upto cqlBlanksSpec)) cqlBlanksUptoCard

/-- THE SECOND FORM's CARD OF 'pinakeslaw11.CqlDeep'. -/
def cqlDeepUptoCard : Claim7 := { stood := { row := cqlDeepUptoRow, standIns := [], harness := (true, "188276da8b5cbb7fe5e8f41884f1b25b106463a6763790685cef23f5a102c6c1"), looks := true }, kinds := [], alts := [], laidByText := true, laidKinds := [.data, .pinned], laidTests := true, laidLooks := .later }
def CqlDeepUptoCardSaid : Prop := Claim7.holds Tryz.pinned (.plain (OpenSpec.upto cqlDeepSpec)) cqlDeepUptoCard

/-- THE SECOND FORM's CARD OF 'pinakeslaw11.CqlLeft'. -/
def cqlLeftUptoCard : Claim7 := { stood := { row := cqlLeftUptoRow, standIns := [], harness := (true, "188276da8b5cbb7fe5e8f41884f1b25b106463a6763790685cef23f5a102c6c1"), looks := true }, kinds := [], alts := [], laidByText := true, laidKinds := [.data, .pinned], laidTests := true, laidLooks := .later }
def CqlLeftUptoCardSaid : Prop := Claim7.holds Tryz.pinned (.plain (OpenSpec.upto cqlLeftSpec)) cqlLeftUptoCard

/-- THE SECOND FORM's CARD OF 'pinakeslaw11.CqlChanged'. -/
def cqlChangedUptoCard : Claim7 := { stood := { row := cqlChangedUptoRow, standIns := [], harness := (true, "188276da8b5cbb7fe5e8f41884f1b25b106463a6763790685cef23f5a102c6c1"), looks := true }, kinds := [], alts := [], laidByText := true, laidKinds := [.data, .pinned], laidTests := true, laidLooks := .later }
def CqlChangedUptoCardSaid : Prop := Claim7.holds Tryz.pinned (.plain (OpenSpec.upto cqlChangedSpec)) cqlChangedUptoCard
end Rows
end Go.Proofs.YtlfpehljahgbkaaGreatDoor
