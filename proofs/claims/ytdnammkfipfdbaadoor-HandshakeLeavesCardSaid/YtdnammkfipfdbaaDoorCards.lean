/-
  DERIVED. GIVEN WITH THE SEED: THE CARDS: each row of YtdnammkfipfdbaaDoorRows.lean that lists a variable, with what it lists TIED to the program's text (the seventh form; the later family's looks); each row that meets fmt, with fmt's text TOLD by the authors' own Lean function (tested against real Go, not proved from fmt's source: count such statements apart). THE CARD IS WHAT COUNTS. Prove the row's statement (the work); the ties are given (YtdnammkfipfdbaaDoorTie.lean); close each card by the builder's one call (the guide's Derived/Test/ToyasCard.lean, 'card_holds'). Laid BY PROGRAM, IN A SANDBOX (cutbox-door.mjs). By AI agents, Wed Nov 11 2026. No macro, syntax, notation, axiom, sorry.
-/
import Derived.Test.YtdnammkfipfdbaaDoorRows
import GoSem.ClaimSeven
namespace Go.Proofs.YtdnammkfipfdbaaDoor
namespace Rows

/-- THE TIED CARD OF 'bafflelaw20.HandshakeRuns'. -/
def handshakeRunsCard : Claim7 := { stood := { row := handshakeRunsRow, standIns := [], harness := (true, "1e6d4733fad1edab6a0cd7ad71f5902a229309a7bd5e0118cad007d0932fe1d8"), looks := false }, kinds := [], alts := [], laidByText := true, laidKinds := [.data, .widerDeep], laidTests := true, laidLooks := .later }
def HandshakeRunsCardSaid : Prop := Claim7.holds Tryd.pinned (.plain (OpenSpec.ofChange handshakeRunsSpec)) handshakeRunsCard

/-- THE TIED CARD OF 'bafflelaw20.HandshakeTwice'. -/
def handshakeTwiceCard : Claim7 := { stood := { row := handshakeTwiceRow, standIns := [], harness := (true, "1e6d4733fad1edab6a0cd7ad71f5902a229309a7bd5e0118cad007d0932fe1d8"), looks := false }, kinds := [], alts := [], laidByText := true, laidKinds := [.data, .widerDeep], laidTests := true, laidLooks := .later }
def HandshakeTwiceCardSaid : Prop := Claim7.holds Tryd.pinned (.plain (OpenSpec.ofChange handshakeTwiceSpec)) handshakeTwiceCard

/-- THE TIED CARD OF 'bafflelaw20.HandshakeOrder'. -/
def handshakeOrderCard : Claim7 := { stood := { row := handshakeOrderRow, standIns := [], harness := (true, "1e6d4733fad1edab6a0cd7ad71f5902a229309a7bd5e0118cad007d0932fe1d8"), looks := false }, kinds := [], alts := [], laidByText := true, laidKinds := [.data, .widerDeep], laidTests := true, laidLooks := .later }
def HandshakeOrderCardSaid : Prop := Claim7.holds Tryd.pinned (.plain (OpenSpec.ofChange handshakeOrderSpec)) handshakeOrderCard

/-- THE TIED CARD OF 'bafflelaw20.HandshakeWrong'. -/
def handshakeWrongCard : Claim7 := { stood := { row := handshakeWrongRow, standIns := [], harness := (true, "1e6d4733fad1edab6a0cd7ad71f5902a229309a7bd5e0118cad007d0932fe1d8"), looks := false }, kinds := [], alts := [], laidByText := true, laidKinds := [.data, .widerDeep], laidTests := true, laidLooks := .later }
def HandshakeWrongCardSaid : Prop := Claim7.holds Tryd.pinned (.plain (OpenSpec.ofChange handshakeWrongSpec)) handshakeWrongCard

/-- THE TIED CARD OF 'bafflelaw20.HandshakeNames'. -/
def handshakeNamesCard : Claim7 := { stood := { row := handshakeNamesRow, standIns := [], harness := (true, "1e6d4733fad1edab6a0cd7ad71f5902a229309a7bd5e0118cad007d0932fe1d8"), looks := false }, kinds := [], alts := [], laidByText := true, laidKinds := [.data, .widerDeep], laidTests := true, laidLooks := .later }
def HandshakeNamesCardSaid : Prop := Claim7.holds Tryd.pinned (.plain (OpenSpec.ofChange handshakeNamesSpec)) handshakeNamesCard

/-- THE TIED CARD OF 'bafflelaw20.HandshakeTells'. -/
def handshakeTellsCard : Claim7 := { stood := { row := handshakeTellsRow, standIns := [], harness := (true, "1e6d4733fad1edab6a0cd7ad71f5902a229309a7bd5e0118cad007d0932fe1d8"), looks := false }, kinds := [], alts := [], laidByText := true, laidKinds := [.data, .widerDeep], laidTests := true, laidLooks := .later }
def HandshakeTellsCardSaid : Prop := Claim7.holds Tryd.pinned (.plain (OpenSpec.ofChange handshakeTellsSpec)) handshakeTellsCard

/-- THE TIED CARD OF 'bafflelaw20.HandshakeLeaves'. -/
def handshakeLeavesCard : Claim7 := { stood := { row := handshakeLeavesRow, standIns := [], harness := (true, "1e6d4733fad1edab6a0cd7ad71f5902a229309a7bd5e0118cad007d0932fe1d8"), looks := false }, kinds := [], alts := [], laidByText := true, laidKinds := [.data, .widerDeep], laidTests := true, laidLooks := .later }
def HandshakeLeavesCardSaid : Prop := Claim7.holds Tryd.pinned (.plain (OpenSpec.ofChange handshakeLeavesSpec)) handshakeLeavesCard

/-- THE TIED CARD OF 'bafflelaw20.HandshakeSmall'. -/
def handshakeSmallCard : Claim7 := { stood := { row := handshakeSmallRow, standIns := [], harness := (true, "1e6d4733fad1edab6a0cd7ad71f5902a229309a7bd5e0118cad007d0932fe1d8"), looks := false }, kinds := [], alts := [], laidByText := true, laidKinds := [.data, .widerDeep], laidTests := true, laidLooks := .later }
def HandshakeSmallCardSaid : Prop := Claim7.holds Tryd.pinned (.plain (OpenSpec.ofChange handshakeSmallSpec)) handshakeSmallCard

/-- THE SECOND FORM's CARD OF 'bafflelaw20.HandshakeRuns'. -/
def handshakeRunsUptoCard : Claim7 := { stood := { row := handshakeRunsUptoRow, standIns := [], harness := (true, "1e6d4733fad1edab6a0cd7ad71f5902a229309a7bd5e0118cad007d0932fe1d8"), looks := false }, kinds := [], alts := [], laidByText := true, laidKinds := [.data, .widerDeep], laidTests := true, laidLooks := .later }
def HandshakeRunsUptoCardSaid : Prop := Claim7.holds Tryd.pinned (.plain (OpenSpec.upto handshakeRunsSpec)) handshakeRunsUptoCard

/-- THE SECOND FORM's CARD OF 'bafflelaw20.HandshakeTwice'. -/
def handshakeTwiceUptoCard : Claim7 := { stood := { row := handshakeTwiceUptoRow, standIns := [], harness := (true, "1e6d4733fad1edab6a0cd7ad71f5902a229309a7bd5e0118cad007d0932fe1d8"), looks := false }, kinds := [], alts := [], laidByText := true, laidKinds := [.data, .widerDeep], laidTests := true, laidLooks := .later }
def HandshakeTwiceUptoCardSaid : Prop := Claim7.holds Tryd.pinned (.plain (OpenSpec.upto handshakeTwiceSpec)) handshakeTwiceUptoCard

/-- THE SECOND FORM's CARD OF 'bafflelaw20.HandshakeOrder'. -/
def handshakeOrderUptoCard : Claim7 := { stood := { row := handshakeOrderUptoRow, standIns := [], harness := (true, "1e6d4733fad1edab6a0cd7ad71f5902a229309a7bd5e0118cad007d0932fe1d8"), looks := false }, kinds := [], alts := [], laidByText := true, laidKinds := [.data, .widerDeep], laidTests := true, laidLooks := .later }
def HandshakeOrderUptoCardSaid : Prop := Claim7.holds Tryd.pinned (.plain (OpenSpec.upto handshakeOrderSpec)) handshakeOrderUptoCard

/-- THE SECOND FORM's CARD OF 'bafflelaw20.HandshakeWrong'. -/
def handshakeWrongUptoCard : Claim7 := { stood := { row := handshakeWrongUptoRow, standIns := [], harness := (true, "1e6d4733fad1edab6a0cd7ad71f5902a229309a7bd5e0118cad007d0932fe1d8"), looks := false }, kinds := [], alts := [], laidByText := true, laidKinds := [.data, .widerDeep], laidTests := true, laidLooks := .later }
def HandshakeWrongUptoCardSaid : Prop := Claim7.holds Tryd.pinned (.plain (OpenSpec.upto handshakeWrongSpec)) handshakeWrongUptoCard

/-- THE SECOND FORM's CARD OF 'bafflelaw20.HandshakeNames'. -/
def handshakeNamesUptoCard : Claim7 := { stood := { row := handshakeNamesUptoRow, standIns := [], harness := (true, "1e6d4733fad1edab6a0cd7ad71f5902a229309a7bd5e0118cad007d0932fe1d8"), looks := false }, kinds := [], alts := [], laidByText := true, laidKinds := [.data, .widerDeep], laidTests := true, laidLooks := .later }
def HandshakeNamesUptoCardSaid : Prop := Claim7.holds Tryd.pinned (.plain (OpenSpec.upto handshakeNamesSpec)) handshakeNamesUptoCard

/-- THE SECOND FORM's CARD OF 'bafflelaw20.HandshakeTells'. -/
def handshakeTellsUptoCard : Claim7 := { stood := { row := handshakeTellsUptoRow, standIns := [], harness := (true, "1e6d4733fad1edab6a0cd7ad71f5902a229309a7bd5e0118cad007d0932fe1d8"), looks := false }, kinds := [], alts := [], laidByText := true, laidKinds := [.data, .widerDeep], laidTests := true, laidLooks := .later }
def HandshakeTellsUptoCardSaid : Prop := Claim7.holds Tryd.pinned (.plain (OpenSpec.upto handshakeTellsSpec)) handshakeTellsUptoCard

/-- THE SECOND FORM's CARD OF 'bafflelaw20.HandshakeLeaves'. -/
def handshakeLeavesUptoCard : Claim7 := { stood := { row := handshakeLeavesUptoRow, standIns := [], harness := (true, "1e6d4733fad1edab6a0cd7ad71f5902a229309a7bd5e0118cad007d0932fe1d8"), looks := false }, kinds := [], alts := [], laidByText := true, laidKinds := [.data, .widerDeep], laidTests := true, laidLooks := .later }
def HandshakeLeavesUptoCardSaid : Prop := Claim7.holds Tryd.pinned (.plain (OpenSpec.upto handshakeLeavesSpec)) handshakeLeavesUptoCard

/-- THE SECOND FORM's CARD OF 'bafflelaw20.HandshakeSmall'. -/
def handshakeSmallUptoCard : Claim7 := { stood := { row := handshakeSmallUptoRow, standIns := [], harness := (true, "1e6d4733fad1edab6a0cd7ad71f5902a229309a7bd5e0118cad007d0932fe1d8"), looks := false }, kinds := [], alts := [], laidByText := true, laidKinds := [.data, .widerDeep], laidTests := true, laidLooks := .later }
def HandshakeSmallUptoCardSaid : Prop := Claim7.holds Tryd.pinned (.plain (OpenSpec.upto handshakeSmallSpec)) handshakeSmallUptoCard
end Rows
end Go.Proofs.YtdnammkfipfdbaaDoor
