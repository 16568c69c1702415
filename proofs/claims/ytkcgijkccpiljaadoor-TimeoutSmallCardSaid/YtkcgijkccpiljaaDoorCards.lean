/-
  DERIVED. GIVEN WITH THE SEED: THE CARDS: each row of YtkcgijkccpiljaaDoorRows.lean that lists a variable, with what it lists TIED to the program's text (the seventh form; the later family's looks); each row that meets fmt, with fmt's text TOLD by the authors' own Lean function (tested against real Go, not proved from fmt's source: count such statements apart). THE CARD IS WHAT COUNTS. Prove the row's statement (the work); the ties are given (YtkcgijkccpiljaaDoorTie.lean); close each card by the builder's one call (the guide's Derived/Test/ToyasCard.lean, 'card_holds'). Laid BY PROGRAM, IN A SANDBOX (cutbox-door.mjs). By AI agents, Wed Nov 11 2026. No macro, syntax, notation, axiom, sorry.
-/
import Derived.Test.YtkcgijkccpiljaaDoorRows
import GoSem.ClaimSeven
namespace Go.Proofs.YtkcgijkccpiljaaDoor
namespace Rows

/-- THE TIED CARD OF 'bafflelaw25.TimeoutTells'. -/
def timeoutTellsCard : Claim7 := { stood := { row := timeoutTellsRow, standIns := [], harness := (true, "30539d4f249b1f2a9298bd2e43548830545ceef1170e4758b9fcd31d4d63ef08"), looks := false }, kinds := [], alts := [], laidByText := true, laidKinds := [.widerDeep], laidTests := true, laidLooks := .later }
def TimeoutTellsCardSaid : Prop := Claim7.holds Tryd.pinned (.plain (OpenSpec.ofChange timeoutTellsSpec)) timeoutTellsCard

/-- THE TIED CARD OF 'bafflelaw25.TimeoutScales'. -/
def timeoutScalesCard : Claim7 := { stood := { row := timeoutScalesRow, standIns := [], harness := (true, "30539d4f249b1f2a9298bd2e43548830545ceef1170e4758b9fcd31d4d63ef08"), looks := false }, kinds := [], alts := [], laidByText := true, laidKinds := [.widerDeep], laidTests := true, laidLooks := .later }
def TimeoutScalesCardSaid : Prop := Claim7.holds Tryd.pinned (.plain (OpenSpec.ofChange timeoutScalesSpec)) timeoutScalesCard

/-- THE TIED CARD OF 'bafflelaw25.TimeoutLonger'. -/
def timeoutLongerCard : Claim7 := { stood := { row := timeoutLongerRow, standIns := [], harness := (true, "30539d4f249b1f2a9298bd2e43548830545ceef1170e4758b9fcd31d4d63ef08"), looks := false }, kinds := [], alts := [], laidByText := true, laidKinds := [.widerDeep], laidTests := true, laidLooks := .later }
def TimeoutLongerCardSaid : Prop := Claim7.holds Tryd.pinned (.plain (OpenSpec.ofChange timeoutLongerSpec)) timeoutLongerCard

/-- THE TIED CARD OF 'bafflelaw25.TimeoutMost'. -/
def timeoutMostCard : Claim7 := { stood := { row := timeoutMostRow, standIns := [], harness := (true, "30539d4f249b1f2a9298bd2e43548830545ceef1170e4758b9fcd31d4d63ef08"), looks := false }, kinds := [], alts := [], laidByText := true, laidKinds := [.widerDeep], laidTests := true, laidLooks := .later }
def TimeoutMostCardSaid : Prop := Claim7.holds Tryd.pinned (.plain (OpenSpec.ofChange timeoutMostSpec)) timeoutMostCard

/-- THE TIED CARD OF 'bafflelaw25.TimeoutNames'. -/
def timeoutNamesCard : Claim7 := { stood := { row := timeoutNamesRow, standIns := [], harness := (true, "30539d4f249b1f2a9298bd2e43548830545ceef1170e4758b9fcd31d4d63ef08"), looks := false }, kinds := [], alts := [], laidByText := true, laidKinds := [.widerDeep], laidTests := true, laidLooks := .later }
def TimeoutNamesCardSaid : Prop := Claim7.holds Tryd.pinned (.plain (OpenSpec.ofChange timeoutNamesSpec)) timeoutNamesCard

/-- THE TIED CARD OF 'bafflelaw25.TimeoutNamed'. -/
def timeoutNamedCard : Claim7 := { stood := { row := timeoutNamedRow, standIns := [], harness := (true, "30539d4f249b1f2a9298bd2e43548830545ceef1170e4758b9fcd31d4d63ef08"), looks := false }, kinds := [], alts := [], laidByText := true, laidKinds := [.widerDeep], laidTests := true, laidLooks := .later }
def TimeoutNamedCardSaid : Prop := Claim7.holds Tryd.pinned (.plain (OpenSpec.ofChange timeoutNamedSpec)) timeoutNamedCard

/-- THE TIED CARD OF 'bafflelaw25.TimeoutBases'. -/
def timeoutBasesCard : Claim7 := { stood := { row := timeoutBasesRow, standIns := [], harness := (true, "30539d4f249b1f2a9298bd2e43548830545ceef1170e4758b9fcd31d4d63ef08"), looks := false }, kinds := [], alts := [], laidByText := true, laidKinds := [.widerDeep], laidTests := true, laidLooks := .later }
def TimeoutBasesCardSaid : Prop := Claim7.holds Tryd.pinned (.plain (OpenSpec.ofChange timeoutBasesSpec)) timeoutBasesCard

/-- THE TIED CARD OF 'bafflelaw25.TimeoutAll'. -/
def timeoutAllCard : Claim7 := { stood := { row := timeoutAllRow, standIns := [], harness := (true, "30539d4f249b1f2a9298bd2e43548830545ceef1170e4758b9fcd31d4d63ef08"), looks := false }, kinds := [], alts := [], laidByText := true, laidKinds := [.widerDeep], laidTests := true, laidLooks := .later }
def TimeoutAllCardSaid : Prop := Claim7.holds Tryd.pinned (.plain (OpenSpec.ofChange timeoutAllSpec)) timeoutAllCard

/-- THE TIED CARD OF 'bafflelaw25.TimeoutWrong'. -/
def timeoutWrongCard : Claim7 := { stood := { row := timeoutWrongRow, standIns := [], harness := (true, "30539d4f249b1f2a9298bd2e43548830545ceef1170e4758b9fcd31d4d63ef08"), looks := false }, kinds := [], alts := [], laidByText := true, laidKinds := [.widerDeep], laidTests := true, laidLooks := .later }
def TimeoutWrongCardSaid : Prop := Claim7.holds Tryd.pinned (.plain (OpenSpec.ofChange timeoutWrongSpec)) timeoutWrongCard

/-- THE TIED CARD OF 'bafflelaw25.TimeoutSmall'. -/
def timeoutSmallCard : Claim7 := { stood := { row := timeoutSmallRow, standIns := [], harness := (true, "30539d4f249b1f2a9298bd2e43548830545ceef1170e4758b9fcd31d4d63ef08"), looks := false }, kinds := [], alts := [], laidByText := true, laidKinds := [.widerDeep], laidTests := true, laidLooks := .later }
def TimeoutSmallCardSaid : Prop := Claim7.holds Tryd.pinned (.plain (OpenSpec.ofChange timeoutSmallSpec)) timeoutSmallCard

/-- THE SECOND FORM's CARD OF 'bafflelaw25.TimeoutTells'. -/
def timeoutTellsUptoCard : Claim7 := { stood := { row := timeoutTellsUptoRow, standIns := [], harness := (true, "30539d4f249b1f2a9298bd2e43548830545ceef1170e4758b9fcd31d4d63ef08"), looks := false }, kinds := [], alts := [], laidByText := true, laidKinds := [.widerDeep], laidTests := true, laidLooks := .later }
def TimeoutTellsUptoCardSaid : Prop := Claim7.holds Tryd.pinned (.plain (OpenSpec.upto timeoutTellsSpec)) timeoutTellsUptoCard

/-- THE SECOND FORM's CARD OF 'bafflelaw25.TimeoutScales'. -/
def timeoutScalesUptoCard : Claim7 := { stood := { row := timeoutScalesUptoRow, standIns := [], harness := (true, "30539d4f249b1f2a9298bd2e43548830545ceef1170e4758b9fcd31d4d63ef08"), looks := false }, kinds := [], alts := [], laidByText := true, laidKinds := [.widerDeep], laidTests := true, laidLooks := .later }
def TimeoutScalesUptoCardSaid : Prop := Claim7.holds Tryd.pinned (.plain (OpenSpec.upto timeoutScalesSpec)) timeoutScalesUptoCard

/-- THE SECOND FORM's CARD OF 'bafflelaw25.TimeoutLonger'. -/
def timeoutLongerUptoCard : Claim7 := { stood := { row := timeoutLongerUptoRow, standIns := [], harness := (true, "30539d4f249b1f2a9298bd2e43548830545ceef1170e4758b9fcd31d4d63ef08"), looks := false }, kinds := [], alts := [], laidByText := true, laidKinds := [.widerDeep], laidTests := true, laidLooks := .later }
def TimeoutLongerUptoCardSaid : Prop := Claim7.holds Tryd.pinned (.plain (OpenSpec.upto timeoutLongerSpec)) timeoutLongerUptoCard

/-- THE SECOND FORM's CARD OF 'bafflelaw25.TimeoutMost'. -/
def timeoutMostUptoCard : Claim7 := { stood := { row := timeoutMostUptoRow, standIns := [], harness := (true, "30539d4f249b1f2a9298bd2e43548830545ceef1170e4758b9fcd31d4d63ef08"), looks := false }, kinds := [], alts := [], laidByText := true, laidKinds := [.widerDeep], laidTests := true, laidLooks := .later }
def TimeoutMostUptoCardSaid : Prop := Claim7.holds Tryd.pinned (.plain (OpenSpec.upto timeoutMostSpec)) timeoutMostUptoCard

/-- THE SECOND FORM's CARD OF 'bafflelaw25.TimeoutNames'. -/
def timeoutNamesUptoCard : Claim7 := { stood := { row := timeoutNamesUptoRow, standIns := [], harness := (true, "30539d4f249b1f2a9298bd2e43548830545ceef1170e4758b9fcd31d4d63ef08"), looks := false }, kinds := [], alts := [], laidByText := true, laidKinds := [.widerDeep], laidTests := true, laidLooks := .later }
def TimeoutNamesUptoCardSaid : Prop := Claim7.holds Tryd.pinned (.plain (OpenSpec.upto timeoutNamesSpec)) timeoutNamesUptoCard

/-- THE SECOND FORM's CARD OF 'bafflelaw25.TimeoutNamed'. -/
def timeoutNamedUptoCard : Claim7 := { stood := { row := timeoutNamedUptoRow, standIns := [], harness := (true, "30539d4f249b1f2a9298bd2e43548830545ceef1170e4758b9fcd31d4d63ef08"), looks := false }, kinds := [], alts := [], laidByText := true, laidKinds := [.widerDeep], laidTests := true, laidLooks := .later }
def TimeoutNamedUptoCardSaid : Prop := Claim7.holds Tryd.pinned (.plain (OpenSpec.upto timeoutNamedSpec)) timeoutNamedUptoCard

/-- THE SECOND FORM's CARD OF 'bafflelaw25.TimeoutBases'. -/
def timeoutBasesUptoCard : Claim7 := { stood := { row := timeoutBasesUptoRow, standIns := [], harness := (true, "30539d4f249b1f2a9298bd2e43548830545ceef1170e4758b9fcd31d4d63ef08"), looks := false }, kinds := [], alts := [], laidByText := true, laidKinds := [.widerDeep], laidTests := true, laidLooks := .later }
def TimeoutBasesUptoCardSaid : Prop := Claim7.holds Tryd.pinned (.plain (OpenSpec.upto timeoutBasesSpec)) timeoutBasesUptoCard

/-- THE SECOND FORM's CARD OF 'bafflelaw25.TimeoutAll'. -/
def timeoutAllUptoCard : Claim7 := { stood := { row := timeoutAllUptoRow, standIns := [], harness := (true, "30539d4f249b1f2a9298bd2e43548830545ceef1170e4758b9fcd31d4d63ef08"), looks := false }, kinds := [], alts := [], laidByText := true, laidKinds := [.widerDeep], laidTests := true, laidLooks := .later }
def TimeoutAllUptoCardSaid : Prop := Claim7.holds Tryd.pinned (.plain (OpenSpec.upto timeoutAllSpec)) timeoutAllUptoCard

/-- THE SECOND FORM's CARD OF 'bafflelaw25.TimeoutWrong'. -/
def timeoutWrongUptoCard : Claim7 := { stood := { row := timeoutWrongUptoRow, standIns := [], harness := (true, "30539d4f249b1f2a9298bd2e43548830545ceef1170e4758b9fcd31d4d63ef08"), looks := false }, kinds := [], alts := [], laidByText := true, laidKinds := [.widerDeep], laidTests := true, laidLooks := .later }
def TimeoutWrongUptoCardSaid : Prop := Claim7.holds Tryd.pinned (.plain (OpenSpec.upto timeoutWrongSpec)) timeoutWrongUptoCard

/-- THE SECOND FORM's CARD OF 'bafflelaw25.TimeoutSmall'. -/
def timeoutSmallUptoCard : Claim7 := { stood := { row := timeoutSmallUptoRow, standIns := [], harness := (true, "30539d4f249b1f2a9298bd2e43548830545ceef1170e4758b9fcd31d4d63ef08"), looks := false }, kinds := [], alts := [], laidByText := true, laidKinds := [.widerDeep], laidTests := true, laidLooks := .later }
def TimeoutSmallUptoCardSaid : Prop := Claim7.holds Tryd.pinned (.plain (OpenSpec.upto timeoutSmallSpec)) timeoutSmallUptoCard
end Rows
end Go.Proofs.YtkcgijkccpiljaaDoor
