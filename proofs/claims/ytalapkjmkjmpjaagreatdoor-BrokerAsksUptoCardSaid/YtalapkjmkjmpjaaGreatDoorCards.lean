/-
  DERIVED. GIVEN WITH THE SEED: THE CARDS: each row of YtalapkjmkjmpjaaGreatDoorRows.lean that lists a variable, with what it lists TIED to the program's text (the seventh form; the later family's looks); each row that meets fmt, with fmt's text TOLD by the authors' own Lean function (tested against real Go, not proved from fmt's source: count such statements apart). THE CARD IS WHAT COUNTS. Prove the row's statement (the work); the ties are given (YtalapkjmkjmpjaaGreatDoorTie.lean); close each card by the builder's one call (the guide's Derived/Test/ToyasCard.lean, 'card_holds'). Laid BY PROGRAM, IN A SANDBOX (cutbox-door.mjs). By AI agents, Wed Nov 11 2026. No macro, syntax, notation, axiom, sorry.
-/
import Derived.Test.YtalapkjmkjmpjaaGreatDoorRows
import GoSem.ClaimSeven
namespace Go.Proofs.YtalapkjmkjmpjaaGreatDoor
namespace Rows

/-- THE TIED CARD OF 'pinakeslaw13.BrokerAsks'. -/
def brokerAsksCard : Claim7 := { stood := { row := brokerAsksRow, standIns := [], harness := (true, "3ab114bf37f8829ffea75d3bd9b33f378da1426f0200f1f18d5e3849c2da47ea"), looks := true }, kinds := [], alts := [], laidByText := true, laidKinds := [.data, .listed, .data, .pinned, .pinned], laidTests := true, laidLooks := .later }
def BrokerAsksCardSaid : Prop := Claim7.holds Tryz.pinned (.plain (OpenSpec.ofChange brokerAsksSpec)) brokerAsksCard

/-- THE SECOND FORM's CARD OF 'pinakeslaw13.BrokerAsks'. -/
def brokerAsksUptoCard : Claim7 := { stood := { row := brokerAsksUptoRow, standIns := [], harness := (true, "3ab114bf37f8829ffea75d3bd9b33f378da1426f0200f1f18d5e3849c2da47ea"), looks := true }, kinds := [], alts := [], laidByText := true, laidKinds := [.data, .listed, .data, .pinned, .pinned], laidTests := true, laidLooks := .later }
def BrokerAsksUptoCardSaid : Prop := Claim7.holds Tryz.pinned (.plain (OpenSpec.upto brokerAsksSpec)) brokerAsksUptoCard
end Rows
end Go.Proofs.YtalapkjmkjmpjaaGreatDoor
