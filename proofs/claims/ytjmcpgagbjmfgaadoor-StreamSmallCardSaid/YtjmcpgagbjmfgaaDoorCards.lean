/-
  DERIVED. GIVEN WITH THE SEED: THE CARDS: each row of YtjmcpgagbjmfgaaDoorRows.lean that lists a variable, with what it lists TIED to the program's text (the seventh form; the later family's looks); each row that meets fmt, with fmt's text TOLD by the authors' own Lean function (tested against real Go, not proved from fmt's source: count such statements apart). THE CARD IS WHAT COUNTS. Prove the row's statement (the work); the ties are given (YtjmcpgagbjmfgaaDoorTie.lean); close each card by the builder's one call (the guide's Derived/Test/ToyasCard.lean, 'card_holds'). Laid BY PROGRAM, IN A SANDBOX (cutbox-door.mjs). By AI agents, Wed Nov 11 2026. No macro, syntax, notation, axiom, sorry.
-/
import Derived.Test.YtjmcpgagbjmfgaaDoorRows
import GoSem.ClaimSeven
namespace Go.Proofs.YtjmcpgagbjmfgaaDoor
namespace Rows

/-- THE TIED CARD OF 'bafflelaw22.StreamTells'. -/
def streamTellsCard : Claim7 := { stood := { row := streamTellsRow, standIns := [], harness := (true, "e05b68d007c77f72e695cb22d2d56c5ca8bb9af4dd47efe45a2a7b702bbcab86"), looks := false }, kinds := [], alts := [], laidByText := true, laidKinds := [.mapped], laidTests := true, laidLooks := .later }
def StreamTellsCardSaid : Prop := Claim7.holds Tryd.pinned (.plain (OpenSpec.ofChange streamTellsSpec)) streamTellsCard

/-- THE TIED CARD OF 'bafflelaw22.StreamAgain'. -/
def streamAgainCard : Claim7 := { stood := { row := streamAgainRow, standIns := [], harness := (true, "e05b68d007c77f72e695cb22d2d56c5ca8bb9af4dd47efe45a2a7b702bbcab86"), looks := false }, kinds := [], alts := [], laidByText := true, laidKinds := [.mapped], laidTests := true, laidLooks := .later }
def StreamAgainCardSaid : Prop := Claim7.holds Tryd.pinned (.plain (OpenSpec.ofChange streamAgainSpec)) streamAgainCard

/-- THE TIED CARD OF 'bafflelaw22.StreamTypes'. -/
def streamTypesCard : Claim7 := { stood := { row := streamTypesRow, standIns := [], harness := (true, "e05b68d007c77f72e695cb22d2d56c5ca8bb9af4dd47efe45a2a7b702bbcab86"), looks := false }, kinds := [], alts := [], laidByText := true, laidKinds := [.mapped], laidTests := true, laidLooks := .later }
def StreamTypesCardSaid : Prop := Claim7.holds Tryd.pinned (.plain (OpenSpec.ofChange streamTypesSpec)) streamTypesCard

/-- THE TIED CARD OF 'bafflelaw22.StreamWrong'. -/
def streamWrongCard : Claim7 := { stood := { row := streamWrongRow, standIns := [], harness := (true, "e05b68d007c77f72e695cb22d2d56c5ca8bb9af4dd47efe45a2a7b702bbcab86"), looks := false }, kinds := [], alts := [], laidByText := true, laidKinds := [.mapped], laidTests := true, laidLooks := .later }
def StreamWrongCardSaid : Prop := Claim7.holds Tryd.pinned (.plain (OpenSpec.ofChange streamWrongSpec)) streamWrongCard

/-- THE TIED CARD OF 'bafflelaw22.StreamRuns'. -/
def streamRunsCard : Claim7 := { stood := { row := streamRunsRow, standIns := [], harness := (true, "e05b68d007c77f72e695cb22d2d56c5ca8bb9af4dd47efe45a2a7b702bbcab86"), looks := false }, kinds := [], alts := [], laidByText := true, laidKinds := [.mapped], laidTests := true, laidLooks := .later }
def StreamRunsCardSaid : Prop := Claim7.holds Tryd.pinned (.plain (OpenSpec.ofChange streamRunsSpec)) streamRunsCard

/-- THE TIED CARD OF 'bafflelaw22.StreamSmall'. -/
def streamSmallCard : Claim7 := { stood := { row := streamSmallRow, standIns := [], harness := (true, "e05b68d007c77f72e695cb22d2d56c5ca8bb9af4dd47efe45a2a7b702bbcab86"), looks := false }, kinds := [], alts := [], laidByText := true, laidKinds := [.mapped], laidTests := true, laidLooks := .later }
def StreamSmallCardSaid : Prop := Claim7.holds Tryd.pinned (.plain (OpenSpec.ofChange streamSmallSpec)) streamSmallCard

/-- THE TIED CARD OF 'bafflelaw22.StreamAnswers'. -/
def streamAnswersCard : Claim7 := { stood := { row := streamAnswersRow, standIns := [], harness := (true, "e05b68d007c77f72e695cb22d2d56c5ca8bb9af4dd47efe45a2a7b702bbcab86"), looks := false }, kinds := [], alts := [], laidByText := true, laidKinds := [.mapped], laidTests := true, laidLooks := .later }
def StreamAnswersCardSaid : Prop := Claim7.holds Tryd.pinned (.plain (OpenSpec.ofChange streamAnswersSpec)) streamAnswersCard

/-- THE SECOND FORM's CARD OF 'bafflelaw22.StreamTells'. -/
def streamTellsUptoCard : Claim7 := { stood := { row := streamTellsUptoRow, standIns := [], harness := (true, "e05b68d007c77f72e695cb22d2d56c5ca8bb9af4dd47efe45a2a7b702bbcab86"), looks := false }, kinds := [], alts := [], laidByText := true, laidKinds := [.mapped], laidTests := true, laidLooks := .later }
def StreamTellsUptoCardSaid : Prop := Claim7.holds Tryd.pinned (.plain (OpenSpec.upto streamTellsSpec)) streamTellsUptoCard

/-- THE SECOND FORM's CARD OF 'bafflelaw22.StreamAgain'. -/
def streamAgainUptoCard : Claim7 := { stood := { row := streamAgainUptoRow, standIns := [], harness := (true, "e05b68d007c77f72e695cb22d2d56c5ca8bb9af4dd47efe45a2a7b702bbcab86"), looks := false }, kinds := [], alts := [], laidByText := true, laidKinds := [.mapped], laidTests := true, laidLooks := .later }
def StreamAgainUptoCardSaid : Prop := Claim7.holds Tryd.pinned (.plain (OpenSpec.upto streamAgainSpec)) streamAgainUptoCard

/-- THE SECOND FORM's CARD OF 'bafflelaw22.StreamTypes'. -/
def streamTypesUptoCard : Claim7 := { stood := { row := streamTypesUptoRow, standIns := [], harness := (true, "e05b68d007c77f72e695cb22d2d56c5ca8bb9af4dd47efe45a2a7b702bbcab86"), looks := false }, kinds := [], alts := [], laidByText := true, laidKinds := [.mapped], laidTests := true, laidLooks := .later }
def StreamTypesUptoCardSaid : Prop := Claim7.holds Tryd.pinned (.plain (OpenSpec.upto streamTypesSpec)) streamTypesUptoCard

/-- THE SECOND FORM's CARD OF 'bafflelaw22.StreamWrong'. -/
def streamWrongUptoCard : Claim7 := { stood := { row := streamWrongUptoRow, standIns := [], harness := (true, "e05b68d007c77f72e695cb22d2d56c5ca8bb9af4dd47efe45a2a7b702bbcab86"), looks := false }, kinds := [], alts := [], laidByText := true, laidKinds := [.mapped], laidTests := true, laidLooks := .later }
def StreamWrongUptoCardSaid : Prop := Claim7.holds Tryd.pinned (.plain (OpenSpec.upto streamWrongSpec)) streamWrongUptoCard

/-- THE SECOND FORM's CARD OF 'bafflelaw22.StreamRuns'. -/
def streamRunsUptoCard : Claim7 := { stood := { row := streamRunsUptoRow, standIns := [], harness := (true, "e05b68d007c77f72e695cb22d2d56c5ca8bb9af4dd47efe45a2a7b702bbcab86"), looks := false }, kinds := [], alts := [], laidByText := true, laidKinds := [.mapped], laidTests := true, laidLooks := .later }
def StreamRunsUptoCardSaid : Prop := Claim7.holds Tryd.pinned (.plain (OpenSpec.upto streamRunsSpec)) streamRunsUptoCard

/-- THE SECOND FORM's CARD OF 'bafflelaw22.StreamSmall'. -/
def streamSmallUptoCard : Claim7 := { stood := { row := streamSmallUptoRow, standIns := [], harness := (true, "e05b68d007c77f72e695cb22d2d56c5ca8bb9af4dd47efe45a2a7b702bbcab86"), looks := false }, kinds := [], alts := [], laidByText := true, laidKinds := [.mapped], laidTests := true, laidLooks := .later }
def StreamSmallUptoCardSaid : Prop := Claim7.holds Tryd.pinned (.plain (OpenSpec.upto streamSmallSpec)) streamSmallUptoCard

/-- THE SECOND FORM's CARD OF 'bafflelaw22.StreamAnswers'. -/
def streamAnswersUptoCard : Claim7 := { stood := { row := streamAnswersUptoRow, standIns := [], harness := (true, "e05b68d007c77f72e695cb22d2d56c5ca8bb9af4dd47efe45a2a7b702bbcab86"), looks := false }, kinds := [], alts := [], laidByText := true, laidKinds := [.mapped], laidTests := true, laidLooks := .later }
def StreamAnswersUptoCardSaid : Prop := Claim7.holds Tryd.pinned (.plain (OpenSpec.upto streamAnswersSpec)) streamAnswersUptoCard
end Rows
end Go.Proofs.YtjmcpgagbjmfgaaDoor
