/-
  DERIVED. GIVEN WITH THE SEED: THE CARDS: each row of YtojdemmgkdokmaaGreatDoorRows.lean that lists a variable, with what it lists TIED to the program's text (the seventh form; the later family's looks); each row that meets fmt, with fmt's text TOLD by the authors' own Lean function (tested against real Go, not proved from fmt's source: count such statements apart). THE CARD IS WHAT COUNTS. Prove the row's statement (the work); the ties are given (YtojdemmgkdokmaaGreatDoorTie.lean); close each card by the builder's one call (the guide's Derived/Test/ToyasCard.lean, 'card_holds'). Laid BY PROGRAM, IN A SANDBOX (cutbox-door.mjs). By AI agents, Wed Nov 11 2026. No macro, syntax, notation, axiom, sorry.
-/
import Derived.Test.YtojdemmgkdokmaaGreatDoorRows
import GoSem.ClaimSeven
namespace Go.Proofs.YtojdemmgkdokmaaGreatDoor
namespace Rows

/-- THE TIED CARD OF 'pinakeslaw13.BrokerTwice'. -/
def brokerTwiceCard : Claim7 := { stood := { row := brokerTwiceRow, standIns := [], harness := (true, "ca17fb8c6205869cf5b1063fa481d2b04ddce9f22bec855cfb4bdca304f43417"), looks := true }, kinds := [], alts := [], laidByText := true, laidKinds := [.data, .listed, .data, .pinned, .pinned], laidTests := true, laidLooks := .later }
def BrokerTwiceCardSaid : Prop := Claim7.holds Tryz.pinned (.plain (OpenSpec.ofChange brokerTwiceSpec)) brokerTwiceCard

/-- THE TIED CARD OF 'pinakeslaw13.BrokerLimits'. -/
def brokerLimitsCard : Claim7 := { stood := { row := brokerLimitsRow, standIns := [], harness := (true, "ca17fb8c6205869cf5b1063fa481d2b04ddce9f22bec855cfb4bdca304f43417"), looks := true }, kinds := [], alts := [], laidByText := true, laidKinds := [.data, .listed, .data, .pinned, .pinned], laidTests := true, laidLooks := .later }
def BrokerLimitsCardSaid : Prop := Claim7.holds Tryz.pinned (.plain (OpenSpec.ofChange brokerLimitsSpec)) brokerLimitsCard

/-- THE TIED CARD OF 'pinakeslaw13.BrokerKeeps'. -/
def brokerKeepsCard : Claim7 := { stood := { row := brokerKeepsRow, standIns := [], harness := (true, "ca17fb8c6205869cf5b1063fa481d2b04ddce9f22bec855cfb4bdca304f43417"), looks := true }, kinds := [], alts := [], laidByText := true, laidKinds := [.data, .listed, .data, .pinned, .pinned], laidTests := true, laidLooks := .later }
def BrokerKeepsCardSaid : Prop := Claim7.holds Tryz.pinned (.plain (OpenSpec.ofChange brokerKeepsSpec)) brokerKeepsCard

/-- THE TIED CARD OF 'pinakeslaw13.BrokerAlone'. -/
def brokerAloneCard : Claim7 := { stood := { row := brokerAloneRow, standIns := [], harness := (true, "ca17fb8c6205869cf5b1063fa481d2b04ddce9f22bec855cfb4bdca304f43417"), looks := true }, kinds := [], alts := [], laidByText := true, laidKinds := [.data, .listed, .data, .pinned, .pinned], laidTests := true, laidLooks := .later }
def BrokerAloneCardSaid : Prop := Claim7.holds Tryz.pinned (.plain (OpenSpec.ofChange brokerAloneSpec)) brokerAloneCard

/-- THE SECOND FORM's CARD OF 'pinakeslaw13.BrokerTwice'. -/
def brokerTwiceUptoCard : Claim7 := { stood := { row := brokerTwiceUptoRow, standIns := [], harness := (true, "ca17fb8c6205869cf5b1063fa481d2b04ddce9f22bec855cfb4bdca304f43417"), looks := true }, kinds := [], alts := [], laidByText := true, laidKinds := [.data, .listed, .data, .pinned, .pinned], laidTests := true, laidLooks := .later }
def BrokerTwiceUptoCardSaid : Prop := Claim7.holds Tryz.pinned (.plain (OpenSpec.upto brokerTwiceSpec)) brokerTwiceUptoCard

/-- THE SECOND FORM's CARD OF 'pinakeslaw13.BrokerLimits'. -/
def brokerLimitsUptoCard : Claim7 := { stood := { row := brokerLimitsUptoRow, standIns := [], harness := (true, "ca17fb8c6205869cf5b1063fa481d2b04ddce9f22bec855cfb4bdca304f43417"), looks := true }, kinds := [], alts := [], laidByText := true, laidKinds := [.data, .listed, .data, .pinned, .pinned], laidTests := true, laidLooks := .later }
def BrokerLimitsUptoCardSaid : Prop := Claim7.holds Tryz.pinned (.plain (OpenSpec.upto brokerLimitsSpec)) brokerLimitsUptoCard

/-- THE SECOND FORM's CARD OF 'pinakeslaw13.BrokerKeeps'. -/
def brokerKeepsUptoCard : Claim7 := { stood := { row := brokerKeepsUptoRow, standIns := [], harness := (true, "ca17fb8c6205869cf5b1063fa481d2b04ddce9f22bec855cfb4bdca304f43417"), looks := true }, kinds := [], alts := [], laidByText := true, laidKinds := [.data, .listed, .data, .pinned, .pinned], laidTests := true, laidLooks := .later }
def BrokerKeepsUptoCardSaid : Prop := Claim7.holds Tryz.pinned (.plain (OpenSpec.upto brokerKeepsSpec)) brokerKeepsUptoCard

/-- THE SECOND FORM's CARD OF 'pinakeslaw13.BrokerAlone'. -/
def brokerAloneUptoCard : Claim7 := { stood := { row := brokerAloneUptoRow, standIns := [], harness := (true, "ca17fb8c6205869cf5b1063fa481d2b04ddce9f22bec855cfb4bdca304f43417"), looks := true }, kinds := [], alts := [], laidByText := true, laidKinds := [.data, .listed, .data, .pinned, .pinned], laidTests := true, laidLooks := .later }
def BrokerAloneUptoCardSaid : Prop := Claim7.holds Tryz.pinned (.plain (OpenSpec.upto brokerAloneSpec)) brokerAloneUptoCard
end Rows
end Go.Proofs.YtojdemmgkdokmaaGreatDoor
