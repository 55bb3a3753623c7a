/-
  DERIVED. GIVEN WITH THE SEED: THE CARDS: each row of YtekmeaoblpfnpaaGreatDoorRows.lean that lists a variable, with what it lists TIED to the program's text (the seventh form; the later family's looks); each row that meets fmt, with fmt's text TOLD by the authors' own Lean function (tested against real Go, not proved from fmt's source: count such statements apart). THE CARD IS WHAT COUNTS. Prove the row's statement (the work); the ties are given (YtekmeaoblpfnpaaGreatDoorTie.lean); close each card by the builder's one call (the guide's Derived/Test/ToyasCard.lean, 'card_holds'). Laid BY PROGRAM, IN A SANDBOX (cutbox-door.mjs). By AI agents, Wed Nov 11 2026. No macro, syntax, notation, axiom, sorry.
-/
import Derived.Test.YtekmeaoblpfnpaaGreatDoorRows
import GoSem.ClaimSeven
namespace Go.Proofs.YtekmeaoblpfnpaaGreatDoor
namespace Rows

/-- THE TIED CARD OF 'pinakeslaw12.SearchRuns'. -/
def searchRunsCard : Claim7 := { stood := { row := searchRunsRow, standIns := [], harness := (true, "765112579d6f1c6a43153302be8e663afef0d2140ad05ab2973e71de0b499d6d"), looks := true }, kinds := [], alts := [], laidByText := true, laidKinds := [.data, .listed, .data, .pinned, .pinned], laidTests := true, laidLooks := .later }
def SearchRunsCardSaid : Prop := Claim7.holds Tryz.pinned (.plain (OpenSpec.ofChange searchRunsSpec)) searchRunsCard

/-- THE TIED CARD OF 'pinakeslaw12.SearchRanges'. -/
def searchRangesCard : Claim7 := { stood := { row := searchRangesRow, standIns := [], harness := (true, "765112579d6f1c6a43153302be8e663afef0d2140ad05ab2973e71de0b499d6d"), looks := true }, kinds := [], alts := [], laidByText := true, laidKinds := [.data, .listed, .data, .pinned, .pinned], laidTests := true, laidLooks := .later }
def SearchRangesCardSaid : Prop := Claim7.holds Tryz.pinned (.plain (OpenSpec.ofChange searchRangesSpec)) searchRangesCard

/-- THE TIED CARD OF 'pinakeslaw12.SearchOrder'. -/
def searchOrderCard : Claim7 := { stood := { row := searchOrderRow, standIns := [], harness := (true, "765112579d6f1c6a43153302be8e663afef0d2140ad05ab2973e71de0b499d6d"), looks := true }, kinds := [], alts := [], laidByText := true, laidKinds := [.data, .listed, .data, .pinned, .pinned], laidTests := true, laidLooks := .later }
def SearchOrderCardSaid : Prop := Claim7.holds Tryz.pinned (.plain (OpenSpec.ofChange searchOrderSpec)) searchOrderCard

/-- THE TIED CARD OF 'pinakeslaw12.SearchTerms'. -/
def searchTermsCard : Claim7 := { stood := { row := searchTermsRow, standIns := [], harness := (true, "765112579d6f1c6a43153302be8e663afef0d2140ad05ab2973e71de0b499d6d"), looks := true }, kinds := [], alts := [], laidByText := true, laidKinds := [.data, .listed, .data, .pinned, .pinned], laidTests := true, laidLooks := .later }
def SearchTermsCardSaid : Prop := Claim7.holds Tryz.pinned (.plain (OpenSpec.ofChange searchTermsSpec)) searchTermsCard

/-- THE TIED CARD OF 'pinakeslaw12.SearchLogic'. -/
def searchLogicCard : Claim7 := { stood := { row := searchLogicRow, standIns := [], harness := (true, "765112579d6f1c6a43153302be8e663afef0d2140ad05ab2973e71de0b499d6d"), looks := true }, kinds := [], alts := [], laidByText := true, laidKinds := [.data, .listed, .data, .pinned, .pinned], laidTests := true, laidLooks := .later }
def SearchLogicCardSaid : Prop := Claim7.holds Tryz.pinned (.plain (OpenSpec.ofChange searchLogicSpec)) searchLogicCard

/-- THE TIED CARD OF 'pinakeslaw12.SearchNil'. -/
def searchNilCard : Claim7 := { stood := { row := searchNilRow, standIns := [], harness := (true, "765112579d6f1c6a43153302be8e663afef0d2140ad05ab2973e71de0b499d6d"), looks := true }, kinds := [], alts := [], laidByText := true, laidKinds := [.data, .listed, .data, .pinned, .pinned], laidTests := true, laidLooks := .later }
def SearchNilCardSaid : Prop := Claim7.holds Tryz.pinned (.plain (OpenSpec.ofChange searchNilSpec)) searchNilCard

/-- THE TIED CARD OF 'pinakeslaw12.SearchSets'. -/
def searchSetsCard : Claim7 := { stood := { row := searchSetsRow, standIns := [], harness := (true, "765112579d6f1c6a43153302be8e663afef0d2140ad05ab2973e71de0b499d6d"), looks := true }, kinds := [], alts := [], laidByText := true, laidKinds := [.data, .listed, .data, .pinned, .pinned], laidTests := true, laidLooks := .later }
def SearchSetsCardSaid : Prop := Claim7.holds Tryz.pinned (.plain (OpenSpec.ofChange searchSetsSpec)) searchSetsCard

/-- THE TIED CARD OF 'pinakeslaw12.SearchPages'. -/
def searchPagesCard : Claim7 := { stood := { row := searchPagesRow, standIns := [], harness := (true, "765112579d6f1c6a43153302be8e663afef0d2140ad05ab2973e71de0b499d6d"), looks := true }, kinds := [], alts := [], laidByText := true, laidKinds := [.data, .listed, .data, .pinned, .pinned], laidTests := true, laidLooks := .later }
def SearchPagesCardSaid : Prop := Claim7.holds Tryz.pinned (.plain (OpenSpec.ofChange searchPagesSpec)) searchPagesCard

/-- THE TIED CARD OF 'pinakeslaw12.SearchPlans'. -/
def searchPlansCard : Claim7 := { stood := { row := searchPlansRow, standIns := [], harness := (true, "765112579d6f1c6a43153302be8e663afef0d2140ad05ab2973e71de0b499d6d"), looks := true }, kinds := [], alts := [], laidByText := true, laidKinds := [.data, .listed, .data, .pinned, .pinned], laidTests := true, laidLooks := .later }
def SearchPlansCardSaid : Prop := Claim7.holds Tryz.pinned (.plain (OpenSpec.ofChange searchPlansSpec)) searchPlansCard

/-- THE TIED CARD OF 'pinakeslaw12.SearchSame'. -/
def searchSameCard : Claim7 := { stood := { row := searchSameRow, standIns := [], harness := (true, "765112579d6f1c6a43153302be8e663afef0d2140ad05ab2973e71de0b499d6d"), looks := true }, kinds := [], alts := [], laidByText := true, laidKinds := [.data, .listed, .data, .pinned, .pinned], laidTests := true, laidLooks := .later }
def SearchSameCardSaid : Prop := Claim7.holds Tryz.pinned (.plain (OpenSpec.ofChange searchSameSpec)) searchSameCard

/-- THE TIED CARD OF 'pinakeslaw12.SearchCheaper'. -/
def searchCheaperCard : Claim7 := { stood := { row := searchCheaperRow, standIns := [], harness := (true, "765112579d6f1c6a43153302be8e663afef0d2140ad05ab2973e71de0b499d6d"), looks := true }, kinds := [], alts := [], laidByText := true, laidKinds := [.data, .listed, .data, .pinned, .pinned], laidTests := true, laidLooks := .later }
def SearchCheaperCardSaid : Prop := Claim7.holds Tryz.pinned (.plain (OpenSpec.ofChange searchCheaperSpec)) searchCheaperCard

/-- THE SECOND FORM's CARD OF 'pinakeslaw12.SearchRuns'. -/
def searchRunsUptoCard : Claim7 := { stood := { row := searchRunsUptoRow, standIns := [], harness := (true, "765112579d6f1c6a43153302be8e663afef0d2140ad05ab2973e71de0b499d6d"), looks := true }, kinds := [], alts := [], laidByText := true, laidKinds := [.data, .listed, .data, .pinned, .pinned], laidTests := true, laidLooks := .later }
def SearchRunsUptoCardSaid : Prop := Claim7.holds Tryz.pinned (.plain (OpenSpec.upto searchRunsSpec)) searchRunsUptoCard

/-- THE SECOND FORM's CARD OF 'pinakeslaw12.SearchRanges'. -/
def searchRangesUptoCard : Claim7 := { stood := { row := searchRangesUptoRow, standIns := [], harness := (true, "765112579d6f1c6a43153302be8e663afef0d2140ad05ab2973e71de0b499d6d"), looks := true }, kinds := [], alts := [], laidByText := true, laidKinds := [.data, .listed, .data, .pinned, .pinned], laidTests := true, laidLooks := .later }
def SearchRangesUptoCardSaid : Prop := Claim7.holds Tryz.pinned (.plain (OpenSpec.upto searchRangesSpec)) searchRangesUptoCard

/-- THE SECOND FORM's CARD OF 'pinakeslaw12.SearchOrder'. -/
def searchOrderUptoCard : Claim7 := { stood := { row := searchOrderUptoRow, standIns := [], harness := (true, "765112579d6f1c6a43153302be8e663afef0d2140ad05ab2973e71de0b499d6d"), looks := true }, kinds := [], alts := [], laidByText := true, laidKinds := [.data, .listed, .data, .pinned, .pinned], laidTests := true, laidLooks := .later }
def SearchOrderUptoCardSaid : Prop := Claim7.holds Tryz.pinned (.plain (OpenSpec.upto searchOrderSpec)) searchOrderUptoCard

/-- THE SECOND FORM's CARD OF 'pinakeslaw12.SearchTerms'. -/
def searchTermsUptoCard : Claim7 := { stood := { row := searchTermsUptoRow, standIns := [], harness := (true, "765112579d6f1c6a43153302be8e663afef0d2140ad05ab2973e71de0b499d6d"), looks := true }, kinds := [], alts := [], laidByText := true, laidKinds := [.data, .listed, .data, .pinned, .pinned], laidTests := true, laidLooks := .later }
def SearchTermsUptoCardSaid : Prop := Claim7.holds Tryz.pinned (.plain (OpenSpec.upto searchTermsSpec)) searchTermsUptoCard

/-- THE SECOND FORM's CARD OF 'pinakeslaw12.SearchLogic'. -/
def searchLogicUptoCard : Claim7 := { stood := { row := searchLogicUptoRow, standIns := [], harness := (true, "765112579d6f1c6a43153302be8e663afef0d2140ad05ab2973e71de0b499d6d"), looks := true }, kinds := [], alts := [], laidByText := true, laidKinds := [.data, .listed, .data, .pinned, .pinned], laidTests := true, laidLooks := .later }
def SearchLogicUptoCardSaid : Prop := Claim7.holds Tryz.pinned (.plain (OpenSpec.upto searchLogicSpec)) searchLogicUptoCard

/-- THE SECOND FORM's CARD OF 'pinakeslaw12.SearchNil'. -/
def searchNilUptoCard : Claim7 := { stood := { row := searchNilUptoRow, standIns := [], harness := (true, "765112579d6f1c6a43153302be8e663afef0d2140ad05ab2973e71de0b499d6d"), looks := true }, kinds := [], alts := [], laidByText := true, laidKinds := [.data, .listed, .data, .pinned, .pinned], laidTests := true, laidLooks := .later }
def SearchNilUptoCardSaid : Prop := Claim7.holds Tryz.pinned (.plain (OpenSpec.upto searchNilSpec)) searchNilUptoCard

/-- THE SECOND FORM's CARD OF 'pinakeslaw12.SearchSets'. -/
def searchSetsUptoCard : Claim7 := { stood := { row := searchSetsUptoRow, standIns := [], harness := (true, "765112579d6f1c6a43153302be8e663afef0d2140ad05ab2973e71de0b499d6d"), looks := true }, kinds := [], alts := [], laidByText := true, laidKinds := [.data, .listed, .data, .pinned, .pinned], laidTests := true, laidLooks := .later }
def SearchSetsUptoCardSaid : Prop := Claim7.holds Tryz.pinned (.plain (OpenSpec.upto searchSetsSpec)) searchSetsUptoCard

/-- THE SECOND FORM's CARD OF 'pinakeslaw12.SearchPages'. -/
def searchPagesUptoCard : Claim7 := { stood := { row := searchPagesUptoRow, standIns := [], harness := (true, "765112579d6f1c6a43153302be8e663afef0d2140ad05ab2973e71de0b499d6d"), looks := true }, kinds := [], alts := [], laidByText := true, laidKinds := [.data, .listed, .data, .pinned, .pinned], laidTests := true, laidLooks := .later }
def SearchPagesUptoCardSaid : Prop := Claim7.holds Tryz.pinned (.plain (OpenSpec.upto searchPagesSpec)) searchPagesUptoCard

/-- THE SECOND FORM's CARD OF 'pinakeslaw12.SearchPlans'. -/
def searchPlansUptoCard : Claim7 := { stood := { row := searchPlansUptoRow, standIns := [], harness := (true, "765112579d6f1c6a43153302be8e663afef0d2140ad05ab2973e71de0b499d6d"), looks := true }, kinds := [], alts := [], laidByText := true, laidKinds := [.data, .listed, .data, .pinned, .pinned], laidTests := true, laidLooks := .later }
def SearchPlansUptoCardSaid : Prop := Claim7.holds Tryz.pinned (.plain (OpenSpec.upto searchPlansSpec)) searchPlansUptoCard

/-- THE SECOND FORM's CARD OF 'pinakeslaw12.SearchSame'. -/
def searchSameUptoCard : Claim7 := { stood := { row := searchSameUptoRow, standIns := [], harness := (true, "765112579d6f1c6a43153302be8e663afef0d2140ad05ab2973e71de0b499d6d"), looks := true }, kinds := [], alts := [], laidByText := true, laidKinds := [.data, .listed, .data, .pinned, .pinned], laidTests := true, laidLooks := .later }
def SearchSameUptoCardSaid : Prop := Claim7.holds Tryz.pinned (.plain (OpenSpec.upto searchSameSpec)) searchSameUptoCard

/-- THE SECOND FORM's CARD OF 'pinakeslaw12.SearchCheaper'. -/
def searchCheaperUptoCard : Claim7 := { stood := { row := searchCheaperUptoRow, standIns := [], harness := (true, "765112579d6f1c6a43153302be8e663afef0d2140ad05ab2973e71de0b499d6d"), looks := true }, kinds := [], alts := [], laidByText := true, laidKinds := [.data, .listed, .data, .pinned, .pinned], laidTests := true, laidLooks := .later }
def SearchCheaperUptoCardSaid : Prop := Claim7.holds Tryz.pinned (.plain (OpenSpec.upto searchCheaperSpec)) searchCheaperUptoCard
end Rows
end Go.Proofs.YtekmeaoblpfnpaaGreatDoor
