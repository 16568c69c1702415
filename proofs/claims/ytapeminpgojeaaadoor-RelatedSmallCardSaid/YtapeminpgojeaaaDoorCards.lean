/-
  DERIVED. GIVEN WITH THE SEED: THE CARDS: each row of YtapeminpgojeaaaDoorRows.lean that lists a variable, with what it lists TIED to the program's text (the seventh form; the later family's looks); each row that meets fmt, with fmt's text TOLD by the authors' own Lean function (tested against real Go, not proved from fmt's source: count such statements apart). THE CARD IS WHAT COUNTS. Prove the row's statement (the work); the ties are given (YtapeminpgojeaaaDoorTie.lean); close each card by the builder's one call (the guide's Derived/Test/ToyasCard.lean, 'card_holds'). Laid BY PROGRAM, IN A SANDBOX (cutbox-door.mjs). By AI agents, Wed Nov 11 2026. No macro, syntax, notation, axiom, sorry.
-/
import Derived.Test.YtapeminpgojeaaaDoorRows
import GoSem.ClaimSeven
namespace Go.Proofs.YtapeminpgojeaaaDoor
namespace Rows

/-- THE TIED CARD OF 'bafflelaw23.RelatedTells'. -/
def relatedTellsCard : Claim7 := { stood := { row := relatedTellsRow, standIns := [], harness := (true, "782eb88d267a8001e71ba2eee9de4c08cfbb97b2761b7ab343ab01f3979df3c3"), looks := false }, kinds := [], alts := [], laidByText := true, laidKinds := [.mapped, .mapped], laidTests := true, laidLooks := .later }
def RelatedTellsCardSaid : Prop := Claim7.holds Tryd.pinned (.plain (OpenSpec.ofChange relatedTellsSpec)) relatedTellsCard

/-- THE TIED CARD OF 'bafflelaw23.RelatedBelongs'. -/
def relatedBelongsCard : Claim7 := { stood := { row := relatedBelongsRow, standIns := [], harness := (true, "782eb88d267a8001e71ba2eee9de4c08cfbb97b2761b7ab343ab01f3979df3c3"), looks := false }, kinds := [], alts := [], laidByText := true, laidKinds := [.mapped, .mapped], laidTests := true, laidLooks := .later }
def RelatedBelongsCardSaid : Prop := Claim7.holds Tryd.pinned (.plain (OpenSpec.ofChange relatedBelongsSpec)) relatedBelongsCard

/-- THE TIED CARD OF 'bafflelaw23.RelatedTurned'. -/
def relatedTurnedCard : Claim7 := { stood := { row := relatedTurnedRow, standIns := [], harness := (true, "782eb88d267a8001e71ba2eee9de4c08cfbb97b2761b7ab343ab01f3979df3c3"), looks := false }, kinds := [], alts := [], laidByText := true, laidKinds := [.mapped, .mapped], laidTests := true, laidLooks := .later }
def RelatedTurnedCardSaid : Prop := Claim7.holds Tryd.pinned (.plain (OpenSpec.ofChange relatedTurnedSpec)) relatedTurnedCard

/-- THE TIED CARD OF 'bafflelaw23.RelatedKinds'. -/
def relatedKindsCard : Claim7 := { stood := { row := relatedKindsRow, standIns := [], harness := (true, "782eb88d267a8001e71ba2eee9de4c08cfbb97b2761b7ab343ab01f3979df3c3"), looks := false }, kinds := [], alts := [], laidByText := true, laidKinds := [.mapped, .mapped], laidTests := true, laidLooks := .later }
def RelatedKindsCardSaid : Prop := Claim7.holds Tryd.pinned (.plain (OpenSpec.ofChange relatedKindsSpec)) relatedKindsCard

/-- THE TIED CARD OF 'bafflelaw23.RelatedFinds'. -/
def relatedFindsCard : Claim7 := { stood := { row := relatedFindsRow, standIns := [], harness := (true, "782eb88d267a8001e71ba2eee9de4c08cfbb97b2761b7ab343ab01f3979df3c3"), looks := false }, kinds := [], alts := [], laidByText := true, laidKinds := [.mapped, .mapped], laidTests := true, laidLooks := .later }
def RelatedFindsCardSaid : Prop := Claim7.holds Tryd.pinned (.plain (OpenSpec.ofChange relatedFindsSpec)) relatedFindsCard

/-- THE TIED CARD OF 'bafflelaw23.RelatedSmall'. -/
def relatedSmallCard : Claim7 := { stood := { row := relatedSmallRow, standIns := [], harness := (true, "782eb88d267a8001e71ba2eee9de4c08cfbb97b2761b7ab343ab01f3979df3c3"), looks := false }, kinds := [], alts := [], laidByText := true, laidKinds := [.mapped, .mapped], laidTests := true, laidLooks := .later }
def RelatedSmallCardSaid : Prop := Claim7.holds Tryd.pinned (.plain (OpenSpec.ofChange relatedSmallSpec)) relatedSmallCard

/-- THE TIED CARD OF 'bafflelaw23.RelatedOne'. -/
def relatedOneCard : Claim7 := { stood := { row := relatedOneRow, standIns := [], harness := (true, "782eb88d267a8001e71ba2eee9de4c08cfbb97b2761b7ab343ab01f3979df3c3"), looks := false }, kinds := [], alts := [], laidByText := true, laidKinds := [.mapped, .mapped], laidTests := true, laidLooks := .later }
def RelatedOneCardSaid : Prop := Claim7.holds Tryd.pinned (.plain (OpenSpec.ofChange relatedOneSpec)) relatedOneCard

/-- THE TIED CARD OF 'bafflelaw23.RelatedWrong'. -/
def relatedWrongCard : Claim7 := { stood := { row := relatedWrongRow, standIns := [], harness := (true, "782eb88d267a8001e71ba2eee9de4c08cfbb97b2761b7ab343ab01f3979df3c3"), looks := false }, kinds := [], alts := [], laidByText := true, laidKinds := [.mapped, .mapped], laidTests := true, laidLooks := .later }
def RelatedWrongCardSaid : Prop := Claim7.holds Tryd.pinned (.plain (OpenSpec.ofChange relatedWrongSpec)) relatedWrongCard

/-- THE SECOND FORM's CARD OF 'bafflelaw23.RelatedTells'. -/
def relatedTellsUptoCard : Claim7 := { stood := { row := relatedTellsUptoRow, standIns := [], harness := (true, "782eb88d267a8001e71ba2eee9de4c08cfbb97b2761b7ab343ab01f3979df3c3"), looks := false }, kinds := [], alts := [], laidByText := true, laidKinds := [.mapped, .mapped], laidTests := true, laidLooks := .later }
def RelatedTellsUptoCardSaid : Prop := Claim7.holds Tryd.pinned (.plain (OpenSpec.upto relatedTellsSpec)) relatedTellsUptoCard

/-- THE SECOND FORM's CARD OF 'bafflelaw23.RelatedBelongs'. -/
def relatedBelongsUptoCard : Claim7 := { stood := { row := relatedBelongsUptoRow, standIns := [], harness := (true, "782eb88d267a8001e71ba2eee9de4c08cfbb97b2761b7ab343ab01f3979df3c3"), looks := false }, kinds := [], alts := [], laidByText := true, laidKinds := [.mapped, .mapped], laidTests := true, laidLooks := .later }
def RelatedBelongsUptoCardSaid : Prop := Claim7.holds Tryd.pinned (.plain (OpenSpec.upto relatedBelongsSpec)) relatedBelongsUptoCard

/-- THE SECOND FORM's CARD OF 'bafflelaw23.RelatedTurned'. -/
def relatedTurnedUptoCard : Claim7 := { stood := { row := relatedTurnedUptoRow, standIns := [], harness := (true, "782eb88d267a8001e71ba2eee9de4c08cfbb97b2761b7ab343ab01f3979df3c3"), looks := false }, kinds := [], alts := [], laidByText := true, laidKinds := [.mapped, .mapped], laidTests := true, laidLooks := .later }
def RelatedTurnedUptoCardSaid : Prop := Claim7.holds Tryd.pinned (.plain (OpenSpec.upto relatedTurnedSpec)) relatedTurnedUptoCard

/-- THE SECOND FORM's CARD OF 'bafflelaw23.RelatedKinds'. -/
def relatedKindsUptoCard : Claim7 := { stood := { row := relatedKindsUptoRow, standIns := [], harness := (true, "782eb88d267a8001e71ba2eee9de4c08cfbb97b2761b7ab343ab01f3979df3c3"), looks := false }, kinds := [], alts := [], laidByText := true, laidKinds := [.mapped, .mapped], laidTests := true, laidLooks := .later }
def RelatedKindsUptoCardSaid : Prop := Claim7.holds Tryd.pinned (.plain (OpenSpec.upto relatedKindsSpec)) relatedKindsUptoCard

/-- THE SECOND FORM's CARD OF 'bafflelaw23.RelatedFinds'. -/
def relatedFindsUptoCard : Claim7 := { stood := { row := relatedFindsUptoRow, standIns := [], harness := (true, "782eb88d267a8001e71ba2eee9de4c08cfbb97b2761b7ab343ab01f3979df3c3"), looks := false }, kinds := [], alts := [], laidByText := true, laidKinds := [.mapped, .mapped], laidTests := true, laidLooks := .later }
def RelatedFindsUptoCardSaid : Prop := Claim7.holds Tryd.pinned (.plain (OpenSpec.upto relatedFindsSpec)) relatedFindsUptoCard

/-- THE SECOND FORM's CARD OF 'bafflelaw23.RelatedSmall'. -/
def relatedSmallUptoCard : Claim7 := { stood := { row := relatedSmallUptoRow, standIns := [], harness := (true, "782eb88d267a8001e71ba2eee9de4c08cfbb97b2761b7ab343ab01f3979df3c3"), looks := false }, kinds := [], alts := [], laidByText := true, laidKinds := [.mapped, .mapped], laidTests := true, laidLooks := .later }
def RelatedSmallUptoCardSaid : Prop := Claim7.holds Tryd.pinned (.plain (OpenSpec.upto relatedSmallSpec)) relatedSmallUptoCard

/-- THE SECOND FORM's CARD OF 'bafflelaw23.RelatedOne'. -/
def relatedOneUptoCard : Claim7 := { stood := { row := relatedOneUptoRow, standIns := [], harness := (true, "782eb88d267a8001e71ba2eee9de4c08cfbb97b2761b7ab343ab01f3979df3c3"), looks := false }, kinds := [], alts := [], laidByText := true, laidKinds := [.mapped, .mapped], laidTests := true, laidLooks := .later }
def RelatedOneUptoCardSaid : Prop := Claim7.holds Tryd.pinned (.plain (OpenSpec.upto relatedOneSpec)) relatedOneUptoCard

/-- THE SECOND FORM's CARD OF 'bafflelaw23.RelatedWrong'. -/
def relatedWrongUptoCard : Claim7 := { stood := { row := relatedWrongUptoRow, standIns := [], harness := (true, "782eb88d267a8001e71ba2eee9de4c08cfbb97b2761b7ab343ab01f3979df3c3"), looks := false }, kinds := [], alts := [], laidByText := true, laidKinds := [.mapped, .mapped], laidTests := true, laidLooks := .later }
def RelatedWrongUptoCardSaid : Prop := Claim7.holds Tryd.pinned (.plain (OpenSpec.upto relatedWrongSpec)) relatedWrongUptoCard
end Rows
end Go.Proofs.YtapeminpgojeaaaDoor
