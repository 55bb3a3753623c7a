/-
  DERIVED. GIVEN WITH THE SEED: THE CARDS: each row of YtadnofaleepkmaaGreatDoorRows.lean that lists a variable, with what it lists TIED to the program's text (the seventh form; the later family's looks); each row that meets fmt, with fmt's text TOLD by the authors' own Lean function (tested against real Go, not proved from fmt's source: count such statements apart). THE CARD IS WHAT COUNTS. Prove the row's statement (the work); the ties are given (YtadnofaleepkmaaGreatDoorTie.lean); close each card by the builder's one call (the guide's Derived/Test/ToyasCard.lean, 'card_holds'). Laid BY PROGRAM, IN A SANDBOX (cutbox-door.mjs). By AI agents, Wed Nov 11 2026. No macro, syntax, notation, axiom, sorry.
-/
import Derived.Test.YtadnofaleepkmaaGreatDoorRows
import GoSem.ClaimSeven
namespace Go.Proofs.YtadnofaleepkmaaGreatDoor
namespace Rows

/-- THE TIED CARD OF 'pinakeslaw06.MatchPoints'. -/
def matchPointsCard : Claim7 := { stood := { row := matchPointsRow, standIns := [], harness := (true, "d8d778260abedda80f93f3ee0f69c2dd03069ad46b749b92a45066592cba6377"), looks := true }, kinds := [], alts := [], laidByText := true, laidKinds := [.data, .pinned, .pinned], laidTests := true, laidLooks := .later }
def MatchPointsCardSaid : Prop := Claim7.holds Tryz.pinned (.plain (OpenSpec.ofChange matchPointsSpec)) matchPointsCard

/-- THE TIED CARD OF 'pinakeslaw06.MatchSelf'. -/
def matchSelfCard : Claim7 := { stood := { row := matchSelfRow, standIns := [], harness := (true, "d8d778260abedda80f93f3ee0f69c2dd03069ad46b749b92a45066592cba6377"), looks := true }, kinds := [], alts := [], laidByText := true, laidKinds := [.data, .pinned, .pinned], laidTests := true, laidLooks := .later }
def MatchSelfCardSaid : Prop := Claim7.holds Tryz.pinned (.plain (OpenSpec.ofChange matchSelfSpec)) matchSelfCard

/-- THE TIED CARD OF 'pinakeslaw06.MatchYears'. -/
def matchYearsCard : Claim7 := { stood := { row := matchYearsRow, standIns := [], harness := (true, "d8d778260abedda80f93f3ee0f69c2dd03069ad46b749b92a45066592cba6377"), looks := true }, kinds := [], alts := [], laidByText := true, laidKinds := [.data, .pinned, .pinned], laidTests := true, laidLooks := .later }
def MatchYearsCardSaid : Prop := Claim7.holds Tryz.pinned (.plain (OpenSpec.ofChange matchYearsSpec)) matchYearsCard

/-- THE TIED CARD OF 'pinakeslaw06.MatchFolded'. -/
def matchFoldedCard : Claim7 := { stood := { row := matchFoldedRow, standIns := [], harness := (true, "d8d778260abedda80f93f3ee0f69c2dd03069ad46b749b92a45066592cba6377"), looks := true }, kinds := [], alts := [], laidByText := true, laidKinds := [.data, .pinned, .pinned], laidTests := true, laidLooks := .later }
def MatchFoldedCardSaid : Prop := Claim7.holds Tryz.pinned (.plain (OpenSpec.ofChange matchFoldedSpec)) matchFoldedCard

/-- THE TIED CARD OF 'pinakeslaw06.MatchPairs'. -/
def matchPairsCard : Claim7 := { stood := { row := matchPairsRow, standIns := [], harness := (true, "d8d778260abedda80f93f3ee0f69c2dd03069ad46b749b92a45066592cba6377"), looks := true }, kinds := [], alts := [], laidByText := true, laidKinds := [.data, .pinned, .pinned], laidTests := true, laidLooks := .later }
def MatchPairsCardSaid : Prop := Claim7.holds Tryz.pinned (.plain (OpenSpec.ofChange matchPairsSpec)) matchPairsCard

/-- THE TIED CARD OF 'pinakeslaw06.MatchChosen'. -/
def matchChosenCard : Claim7 := { stood := { row := matchChosenRow, standIns := [], harness := (true, "d8d778260abedda80f93f3ee0f69c2dd03069ad46b749b92a45066592cba6377"), looks := true }, kinds := [], alts := [], laidByText := true, laidKinds := [.data, .pinned, .pinned], laidTests := true, laidLooks := .later }
def MatchChosenCardSaid : Prop := Claim7.holds Tryz.pinned (.plain (OpenSpec.ofChange matchChosenSpec)) matchChosenCard

/-- THE TIED CARD OF 'pinakeslaw06.MatchTurned'. -/
def matchTurnedCard : Claim7 := { stood := { row := matchTurnedRow, standIns := [], harness := (true, "d8d778260abedda80f93f3ee0f69c2dd03069ad46b749b92a45066592cba6377"), looks := true }, kinds := [], alts := [], laidByText := true, laidKinds := [.data, .pinned, .pinned], laidTests := true, laidLooks := .later }
def MatchTurnedCardSaid : Prop := Claim7.holds Tryz.pinned (.plain (OpenSpec.ofChange matchTurnedSpec)) matchTurnedCard

/-- THE TIED CARD OF 'pinakeslaw06.MatchParts'. -/
def matchPartsCard : Claim7 := { stood := { row := matchPartsRow, standIns := [], harness := (true, "d8d778260abedda80f93f3ee0f69c2dd03069ad46b749b92a45066592cba6377"), looks := true }, kinds := [], alts := [], laidByText := true, laidKinds := [.data, .pinned, .pinned], laidTests := true, laidLooks := .later }
def MatchPartsCardSaid : Prop := Claim7.holds Tryz.pinned (.plain (OpenSpec.ofChange matchPartsSpec)) matchPartsCard

/-- THE TIED CARD OF 'pinakeslaw06.MatchWhole'. -/
def matchWholeCard : Claim7 := { stood := { row := matchWholeRow, standIns := [], harness := (true, "d8d778260abedda80f93f3ee0f69c2dd03069ad46b749b92a45066592cba6377"), looks := true }, kinds := [], alts := [], laidByText := true, laidKinds := [.data, .pinned, .pinned], laidTests := true, laidLooks := .later }
def MatchWholeCardSaid : Prop := Claim7.holds Tryz.pinned (.plain (OpenSpec.ofChange matchWholeSpec)) matchWholeCard

/-- THE SECOND FORM's CARD OF 'pinakeslaw06.MatchPoints'. -/
def matchPointsUptoCard : Claim7 := { stood := { row := matchPointsUptoRow, standIns := [], harness := (true, "d8d778260abedda80f93f3ee0f69c2dd03069ad46b749b92a45066592cba6377"), looks := true }, kinds := [], alts := [], laidByText := true, laidKinds := [.data, .pinned, .pinned], laidTests := true, laidLooks := .later }
def MatchPointsUptoCardSaid : Prop := Claim7.holds Tryz.pinned (.plain (OpenSpec.upto matchPointsSpec)) matchPointsUptoCard

/-- THE SECOND FORM's CARD OF 'pinakeslaw06.MatchSelf'. -/
def matchSelfUptoCard : Claim7 := { stood := { row := matchSelfUptoRow, standIns := [], harness := (true, "d8d778260abedda80f93f3ee0f69c2dd03069ad46b749b92a45066592cba6377"), looks := true }, kinds := [], alts := [], laidByText := true, laidKinds := [.data, .pinned, .pinned], laidTests := true, laidLooks := .later }
def MatchSelfUptoCardSaid : Prop := Claim7.holds Tryz.pinned (.plain (OpenSpec.upto matchSelfSpec)) matchSelfUptoCard

/-- THE SECOND FORM's CARD OF 'pinakeslaw06.MatchYears'. -/
def matchYearsUptoCard : Claim7 := { stood := { row := matchYearsUptoRow, standIns := [], harness := (true, "d8d778260abedda80f93f3ee0f69c2dd03069ad46b749b92a45066592cba6377"), looks := true }, kinds := [], alts := [], laidByText := true, laidKinds := [.data, .pinned, .pinned], laidTests := true, laidLooks := .later }
def MatchYearsUptoCardSaid : Prop := Claim7.holds Tryz.pinned (.plain (OpenSpec.upto matchYearsSpec)) matchYearsUptoCard

/-- THE SECOND FORM's CARD OF 'pinakeslaw06.MatchFolded'. -/
def matchFoldedUptoCard : Claim7 := { stood := { row := matchFoldedUptoRow, standIns := [], harness := (true, "d8d778260abedda80f93f3ee0f69c2dd03069ad46b749b92a45066592cba6377"), looks := true }, kinds := [], alts := [], laidByText := true, laidKinds := [.data, .pinned, .pinned], laidTests := true, laidLooks := .later }
def MatchFoldedUptoCardSaid : Prop := Claim7.holds Tryz.pinned (.plain (OpenSpec.upto matchFoldedSpec)) matchFoldedUptoCard

/-- THE SECOND FORM's CARD OF 'pinakeslaw06.MatchPairs'. -/
def matchPairsUptoCard : Claim7 := { stood := { row := matchPairsUptoRow, standIns := [], harness := (true, "d8d778260abedda80f93f3ee0f69c2dd03069ad46b749b92a45066592cba6377"), looks := true }, kinds := [], alts := [], laidByText := true, laidKinds := [.data, .pinned, .pinned], laidTests := true, laidLooks := .later }
def MatchPairsUptoCardSaid : Prop := Claim7.holds Tryz.pinned (.plain (OpenSpec.upto matchPairsSpec)) matchPairsUptoCard

/-- THE SECOND FORM's CARD OF 'pinakeslaw06.MatchChosen'. -/
def matchChosenUptoCard : Claim7 := { stood := { row := matchChosenUptoRow, standIns := [], harness := (true, "d8d778260abedda80f93f3ee0f69c2dd03069ad46b749b92a45066592cba6377"), looks := true }, kinds := [], alts := [], laidByText := true, laidKinds := [.data, .pinned, .pinned], laidTests := true, laidLooks := .later }
def MatchChosenUptoCardSaid : Prop := Claim7.holds Tryz.pinned (.plain (OpenSpec.upto matchChosenSpec)) matchChosenUptoCard

/-- THE SECOND FORM's CARD OF 'pinakeslaw06.MatchTurned'. -/
def matchTurnedUptoCard : Claim7 := { stood := { row := matchTurnedUptoRow, standIns := [], harness := (true, "d8d778260abedda80f93f3ee0f69c2dd03069ad46b749b92a45066592cba6377"), looks := true }, kinds := [], alts := [], laidByText := true, laidKinds := [.data, .pinned, .pinned], laidTests := true, laidLooks := .later }
def MatchTurnedUptoCardSaid : Prop := Claim7.holds Tryz.pinned (.plain (OpenSpec.upto matchTurnedSpec)) matchTurnedUptoCard

/-- THE SECOND FORM's CARD OF 'pinakeslaw06.MatchParts'. -/
def matchPartsUptoCard : Claim7 := { stood := { row := matchPartsUptoRow, standIns := [], harness := (true, "d8d778260abedda80f93f3ee0f69c2dd03069ad46b749b92a45066592cba6377"), looks := true }, kinds := [], alts := [], laidByText := true, laidKinds := [.data, .pinned, .pinned], laidTests := true, laidLooks := .later }
def MatchPartsUptoCardSaid : Prop := Claim7.holds Tryz.pinned (.plain (OpenSpec.upto matchPartsSpec)) matchPartsUptoCard

/-- THE SECOND FORM's CARD OF 'pinakeslaw06.MatchWhole'. -/
def matchWholeUptoCard : Claim7 := { stood := { row := matchWholeUptoRow, standIns := [], harness := (true, "d8d778260abedda80f93f3ee0f69c2dd03069ad46b749b92a45066592cba6377"), looks := true }, kinds := [], alts := [], laidByText := true, laidKinds := [.data, .pinned, .pinned], laidTests := true, laidLooks := .later }
def MatchWholeUptoCardSaid : Prop := Claim7.holds Tryz.pinned (.plain (OpenSpec.upto matchWholeSpec)) matchWholeUptoCard
end Rows
end Go.Proofs.YtadnofaleepkmaaGreatDoor
