/-
  DERIVED. GIVEN WITH THE SEED: THE CARDS: each row of YtdjkhllhakhjbaaGreatDoorRows.lean that lists a variable, with what it lists TIED to the program's text (the seventh form; the later family's looks); each row that meets fmt, with fmt's text TOLD by the authors' own Lean function (tested against real Go, not proved from fmt's source: count such statements apart). THE CARD IS WHAT COUNTS. Prove the row's statement (the work); the ties are given (YtdjkhllhakhjbaaGreatDoorTie.lean); close each card by the builder's one call (the guide's Derived/Test/ToyasCard.lean, 'card_holds'). Laid BY PROGRAM, IN A SANDBOX (cutbox-door.mjs). By AI agents, Wed Nov 11 2026. No macro, syntax, notation, axiom, sorry.
-/
import Derived.Test.YtdjkhllhakhjbaaGreatDoorRows
import GoSem.ClaimSeven
namespace Go.Proofs.YtdjkhllhakhjbaaGreatDoor
namespace Rows

/-- THE TIED CARD OF 'pinakeslaw13.BrokerMerges'. -/
def brokerMergesCard : Claim7 := { stood := { row := brokerMergesRow, standIns := [], harness := (true, "982f5c34aba587a0b95a792c7c8534f31fe413d74dcb7eaccee7ff7b8b8302a0"), looks := true }, kinds := [], alts := [], laidByText := true, laidKinds := [.data, .listed, .data, .pinned, .pinned], laidTests := true, laidLooks := .later }
def BrokerMergesCardSaid : Prop := Claim7.holds Tryz.pinned (.plain (OpenSpec.ofChange brokerMergesSpec)) brokerMergesCard

/-- THE TIED CARD OF 'pinakeslaw13.BrokerParts'. -/
def brokerPartsCard : Claim7 := { stood := { row := brokerPartsRow, standIns := [], harness := (true, "982f5c34aba587a0b95a792c7c8534f31fe413d74dcb7eaccee7ff7b8b8302a0"), looks := true }, kinds := [], alts := [], laidByText := true, laidKinds := [.data, .listed, .data, .pinned, .pinned], laidTests := true, laidLooks := .later }
def BrokerPartsCardSaid : Prop := Claim7.holds Tryz.pinned (.plain (OpenSpec.ofChange brokerPartsSpec)) brokerPartsCard

/-- THE TIED CARD OF 'pinakeslaw13.BrokerOnce'. -/
def brokerOnceCard : Claim7 := { stood := { row := brokerOnceRow, standIns := [], harness := (true, "982f5c34aba587a0b95a792c7c8534f31fe413d74dcb7eaccee7ff7b8b8302a0"), looks := true }, kinds := [], alts := [], laidByText := true, laidKinds := [.data, .listed, .data, .pinned, .pinned], laidTests := true, laidLooks := .later }
def BrokerOnceCardSaid : Prop := Claim7.holds Tryz.pinned (.plain (OpenSpec.ofChange brokerOnceSpec)) brokerOnceCard

/-- THE TIED CARD OF 'pinakeslaw13.BrokerScans'. -/
def brokerScansCard : Claim7 := { stood := { row := brokerScansRow, standIns := [], harness := (true, "982f5c34aba587a0b95a792c7c8534f31fe413d74dcb7eaccee7ff7b8b8302a0"), looks := true }, kinds := [], alts := [], laidByText := true, laidKinds := [.data, .listed, .data, .pinned, .pinned], laidTests := true, laidLooks := .later }
def BrokerScansCardSaid : Prop := Claim7.holds Tryz.pinned (.plain (OpenSpec.ofChange brokerScansSpec)) brokerScansCard

/-- THE SECOND FORM's CARD OF 'pinakeslaw13.BrokerMerges'. -/
def brokerMergesUptoCard : Claim7 := { stood := { row := brokerMergesUptoRow, standIns := [], harness := (true, "982f5c34aba587a0b95a792c7c8534f31fe413d74dcb7eaccee7ff7b8b8302a0"), looks := true }, kinds := [], alts := [], laidByText := true, laidKinds := [.data, .listed, .data, .pinned, .pinned], laidTests := true, laidLooks := .later }
def BrokerMergesUptoCardSaid : Prop := Claim7.holds Tryz.pinned (.plain (OpenSpec.upto brokerMergesSpec)) brokerMergesUptoCard

/-- THE SECOND FORM's CARD OF 'pinakeslaw13.BrokerParts'. -/
def brokerPartsUptoCard : Claim7 := { stood := { row := brokerPartsUptoRow, standIns := [], harness := (true, "982f5c34aba587a0b95a792c7c8534f31fe413d74dcb7eaccee7ff7b8b8302a0"), looks := true }, kinds := [], alts := [], laidByText := true, laidKinds := [.data, .listed, .data, .pinned, .pinned], laidTests := true, laidLooks := .later }
def BrokerPartsUptoCardSaid : Prop := Claim7.holds Tryz.pinned (.plain (OpenSpec.upto brokerPartsSpec)) brokerPartsUptoCard

/-- THE SECOND FORM's CARD OF 'pinakeslaw13.BrokerOnce'. -/
def brokerOnceUptoCard : Claim7 := { stood := { row := brokerOnceUptoRow, standIns := [], harness := (true, "982f5c34aba587a0b95a792c7c8534f31fe413d74dcb7eaccee7ff7b8b8302a0"), looks := true }, kinds := [], alts := [], laidByText := true, laidKinds := [.data, .listed, .data, .pinned, .pinned], laidTests := true, laidLooks := .later }
def BrokerOnceUptoCardSaid : Prop := Claim7.holds Tryz.pinned (.plain (OpenSpec.upto brokerOnceSpec)) brokerOnceUptoCard

/-- THE SECOND FORM's CARD OF 'pinakeslaw13.BrokerScans'. -/
def brokerScansUptoCard : Claim7 := { stood := { row := brokerScansUptoRow, standIns := [], harness := (true, "982f5c34aba587a0b95a792c7c8534f31fe413d74dcb7eaccee7ff7b8b8302a0"), looks := true }, kinds := [], alts := [], laidByText := true, laidKinds := [.data, .listed, .data, .pinned, .pinned], laidTests := true, laidLooks := .later }
def BrokerScansUptoCardSaid : Prop := Claim7.holds Tryz.pinned (.plain (OpenSpec.upto brokerScansSpec)) brokerScansUptoCard
end Rows
end Go.Proofs.YtdjkhllhakhjbaaGreatDoor
