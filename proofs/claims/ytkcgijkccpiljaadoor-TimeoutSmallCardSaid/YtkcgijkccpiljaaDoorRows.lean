/-
  NARROWER THAN 'FOR EVERY INPUT', by the rows' own cells (each row's printed sentence says how): TimeoutTells: laid · TimeoutScales: laid · TimeoutLonger: laid · TimeoutMost: laid · TimeoutNames: laid · TimeoutNamed: laid · TimeoutBases: laid · TimeoutAll: laid · TimeoutWrong: laid · TimeoutSmall: laid.
  DERIVED. THE GIVEN ROWS OF THIS SEAT. 10 by the template 'for every input the law returns true; each argument reads behind the call as it read before'; 0 by the template 'total and deterministic' (their statements: YtkcgijkccpiljaaDoorTotals.lean).
  GIVEN WITH THE SEED: the statements are not yours to turn. If you find one false, say at which input.
  Laid BY PROGRAM, IN A SANDBOX (cutbox-rows.mjs): the forced cells as the released guide's own fill.sh prints them over the translation 7873bb13ed4f324b… (all of the seat's roots in one cut). By AI agents, Wed Nov 11 2026. No macro, syntax, notation, axiom, sorry.
-/
import Derived.Test.YtkcgijkccpiljaaDoorChecked
import GoSem.Claim
import GoSem.ClaimJoined
import GoSem.ClaimMapViews
import Derived.JoinedTies
import Derived.KernelRfl
namespace Go.Proofs.YtkcgijkccpiljaaDoor
/- THE CELL 'sum', in the pinned program and in every row, IS THE sha256 OF THE DUMP (.gsa) THAT YtkcgijkccpiljaaDoorProg.lean LOADS. Nothing in Lean hashes anything: it is a label: what it is worth is what the hold of that sum in a sandbox is worth. -/
noncomputable def Tryd.pinned : Pinned := { name := "ytkcgijkccpiljaadoor", sum := "7873bb13ed4f324bdfde4061ff44bb4dc77c96663c05427d14226692874e6c34", checked := Tryd.checked }
namespace Rows
def none {H : Type} : Left H := { results := [], args := [] }

/- WHAT THE LISTED PACKAGE-LEVEL VARIABLES READ AS WHEN THE CALL BEGINS. Each datum BY PROGRAM (the guide's laid-datum.mjs) off the statement by which the dump's own 'gosem.cut.vars' lays the variable. In a bare row this is a premise. The card (YtkcgijkccpiljaaDoorCards.lean) ties it to the program's text. -/
def laid_baffle_timeout_names {H : Type} : DataW H := .agg [.lit (.string [116, 99, 112, 45, 111, 112, 101, 110, 105, 110, 103]), .lit (.string [116, 99, 112, 45, 111, 112, 101, 110]), .lit (.string [116, 99, 112, 45, 99, 108, 111, 115, 105, 110, 103]), .lit (.string [116, 99, 112, 45, 119, 97, 105, 116]), .lit (.string [116, 99, 112, 45, 114, 101, 115, 101, 116]), .lit (.string [117, 100, 112, 45, 111, 110, 101]), .lit (.string [117, 100, 112, 45, 98, 111, 116, 104]), .lit (.string [113, 117, 101, 114, 121, 45, 111, 110, 101]), .lit (.string [113, 117, 101, 114, 121, 45, 98, 111, 116, 104])]

/-- 'bafflelaw25.TimeoutTells': WHATEVER THE INPUT: true; the input reads as it did. -/
def timeoutTellsSpec : ChangeSpec := { name := "timeoutTells", fn := fun _ => fun
  | [d1, d2, d3, d4] => { results := [.lit (.bool true)], args := [d1, d2, d3, d4] }
  | _ => none }
def timeoutTellsRow : OpenClaim := { program := "ytkcgijkccpiljaadoor", sum := "7873bb13ed4f324bdfde4061ff44bb4dc77c96663c05427d14226692874e6c34", func := "baffle/bafflelaw25.TimeoutTells", spec := "timeoutTells", unfollowed := true, recurses := true, named := ["baffle/timeout.names"], apart := false, laid := [("baffle/timeout.names", laid_baffle_timeout_names)] }
def TimeoutTellsSaid : Prop := timeoutTellsRow.holds Tryd.pinned (OpenSpec.ofChange timeoutTellsSpec)

/-- ITS FALSE NEIGHBOUR: 'it returns false'. Refute it at one input. -/
def timeoutTellsWrong : ChangeSpec := { name := "timeoutTells", fn := fun _ => fun
  | [d1, d2, d3, d4] => { results := [.lit (.bool false)], args := [d1, d2, d3, d4] }
  | _ => none }
def TimeoutTellsWrongFalsely : Prop := timeoutTellsRow.holds Tryd.pinned (OpenSpec.ofChange timeoutTellsWrong)

/-- 'bafflelaw25.TimeoutScales': WHATEVER THE INPUT: true; the input reads as it did. -/
def timeoutScalesSpec : ChangeSpec := { name := "timeoutScales", fn := fun _ => fun
  | [d1, d2, d3] => { results := [.lit (.bool true)], args := [d1, d2, d3] }
  | _ => none }
def timeoutScalesRow : OpenClaim := { program := "ytkcgijkccpiljaadoor", sum := "7873bb13ed4f324bdfde4061ff44bb4dc77c96663c05427d14226692874e6c34", func := "baffle/bafflelaw25.TimeoutScales", spec := "timeoutScales", unfollowed := true, recurses := true, named := ["baffle/timeout.names"], apart := false, laid := [("baffle/timeout.names", laid_baffle_timeout_names)] }
def TimeoutScalesSaid : Prop := timeoutScalesRow.holds Tryd.pinned (OpenSpec.ofChange timeoutScalesSpec)

/-- ITS FALSE NEIGHBOUR: 'it returns false'. Refute it at one input. -/
def timeoutScalesWrong : ChangeSpec := { name := "timeoutScales", fn := fun _ => fun
  | [d1, d2, d3] => { results := [.lit (.bool false)], args := [d1, d2, d3] }
  | _ => none }
def TimeoutScalesWrongFalsely : Prop := timeoutScalesRow.holds Tryd.pinned (OpenSpec.ofChange timeoutScalesWrong)

/-- 'bafflelaw25.TimeoutLonger': WHATEVER THE INPUT: true; the input reads as it did. -/
def timeoutLongerSpec : ChangeSpec := { name := "timeoutLonger", fn := fun _ => fun
  | [d1, d2, d3] => { results := [.lit (.bool true)], args := [d1, d2, d3] }
  | _ => none }
def timeoutLongerRow : OpenClaim := { program := "ytkcgijkccpiljaadoor", sum := "7873bb13ed4f324bdfde4061ff44bb4dc77c96663c05427d14226692874e6c34", func := "baffle/bafflelaw25.TimeoutLonger", spec := "timeoutLonger", unfollowed := true, recurses := true, named := ["baffle/timeout.names"], apart := false, laid := [("baffle/timeout.names", laid_baffle_timeout_names)] }
def TimeoutLongerSaid : Prop := timeoutLongerRow.holds Tryd.pinned (OpenSpec.ofChange timeoutLongerSpec)

/-- ITS FALSE NEIGHBOUR: 'it returns false'. Refute it at one input. -/
def timeoutLongerWrong : ChangeSpec := { name := "timeoutLonger", fn := fun _ => fun
  | [d1, d2, d3] => { results := [.lit (.bool false)], args := [d1, d2, d3] }
  | _ => none }
def TimeoutLongerWrongFalsely : Prop := timeoutLongerRow.holds Tryd.pinned (OpenSpec.ofChange timeoutLongerWrong)

/-- 'bafflelaw25.TimeoutMost': WHATEVER THE INPUT: true; the input reads as it did. -/
def timeoutMostSpec : ChangeSpec := { name := "timeoutMost", fn := fun _ => fun
  | [d1, d2] => { results := [.lit (.bool true)], args := [d1, d2] }
  | _ => none }
def timeoutMostRow : OpenClaim := { program := "ytkcgijkccpiljaadoor", sum := "7873bb13ed4f324bdfde4061ff44bb4dc77c96663c05427d14226692874e6c34", func := "baffle/bafflelaw25.TimeoutMost", spec := "timeoutMost", unfollowed := true, recurses := true, named := ["baffle/timeout.names"], apart := false, laid := [("baffle/timeout.names", laid_baffle_timeout_names)] }
def TimeoutMostSaid : Prop := timeoutMostRow.holds Tryd.pinned (OpenSpec.ofChange timeoutMostSpec)

/-- ITS FALSE NEIGHBOUR: 'it returns false'. Refute it at one input. -/
def timeoutMostWrong : ChangeSpec := { name := "timeoutMost", fn := fun _ => fun
  | [d1, d2] => { results := [.lit (.bool false)], args := [d1, d2] }
  | _ => none }
def TimeoutMostWrongFalsely : Prop := timeoutMostRow.holds Tryd.pinned (OpenSpec.ofChange timeoutMostWrong)

/-- 'bafflelaw25.TimeoutNames': WHATEVER THE INPUT: true; the input reads as it did. -/
def timeoutNamesSpec : ChangeSpec := { name := "timeoutNames", fn := fun _ => fun
  | [d1, d2] => { results := [.lit (.bool true)], args := [d1, d2] }
  | _ => none }
def timeoutNamesRow : OpenClaim := { program := "ytkcgijkccpiljaadoor", sum := "7873bb13ed4f324bdfde4061ff44bb4dc77c96663c05427d14226692874e6c34", func := "baffle/bafflelaw25.TimeoutNames", spec := "timeoutNames", unfollowed := true, recurses := true, named := ["baffle/timeout.names"], apart := false, laid := [("baffle/timeout.names", laid_baffle_timeout_names)] }
def TimeoutNamesSaid : Prop := timeoutNamesRow.holds Tryd.pinned (OpenSpec.ofChange timeoutNamesSpec)

/-- ITS FALSE NEIGHBOUR: 'it returns false'. Refute it at one input. -/
def timeoutNamesWrong : ChangeSpec := { name := "timeoutNames", fn := fun _ => fun
  | [d1, d2] => { results := [.lit (.bool false)], args := [d1, d2] }
  | _ => none }
def TimeoutNamesWrongFalsely : Prop := timeoutNamesRow.holds Tryd.pinned (OpenSpec.ofChange timeoutNamesWrong)

/-- 'bafflelaw25.TimeoutNamed': WHATEVER THE INPUT: true; the input reads as it did. -/
def timeoutNamedSpec : ChangeSpec := { name := "timeoutNamed", fn := fun _ => fun
  | [d1, d2] => { results := [.lit (.bool true)], args := [d1, d2] }
  | _ => none }
def timeoutNamedRow : OpenClaim := { program := "ytkcgijkccpiljaadoor", sum := "7873bb13ed4f324bdfde4061ff44bb4dc77c96663c05427d14226692874e6c34", func := "baffle/bafflelaw25.TimeoutNamed", spec := "timeoutNamed", unfollowed := true, recurses := true, named := ["baffle/timeout.names"], apart := false, laid := [("baffle/timeout.names", laid_baffle_timeout_names)] }
def TimeoutNamedSaid : Prop := timeoutNamedRow.holds Tryd.pinned (OpenSpec.ofChange timeoutNamedSpec)

/-- ITS FALSE NEIGHBOUR: 'it returns false'. Refute it at one input. -/
def timeoutNamedWrong : ChangeSpec := { name := "timeoutNamed", fn := fun _ => fun
  | [d1, d2] => { results := [.lit (.bool false)], args := [d1, d2] }
  | _ => none }
def TimeoutNamedWrongFalsely : Prop := timeoutNamedRow.holds Tryd.pinned (OpenSpec.ofChange timeoutNamedWrong)

/-- 'bafflelaw25.TimeoutBases': WHATEVER THE INPUT: true; the input reads as it did. -/
def timeoutBasesSpec : ChangeSpec := { name := "timeoutBases", fn := fun _ => fun
  | [d1, d2, d3, d4] => { results := [.lit (.bool true)], args := [d1, d2, d3, d4] }
  | _ => none }
def timeoutBasesRow : OpenClaim := { program := "ytkcgijkccpiljaadoor", sum := "7873bb13ed4f324bdfde4061ff44bb4dc77c96663c05427d14226692874e6c34", func := "baffle/bafflelaw25.TimeoutBases", spec := "timeoutBases", unfollowed := true, recurses := true, named := ["baffle/timeout.names"], apart := false, laid := [("baffle/timeout.names", laid_baffle_timeout_names)] }
def TimeoutBasesSaid : Prop := timeoutBasesRow.holds Tryd.pinned (OpenSpec.ofChange timeoutBasesSpec)

/-- ITS FALSE NEIGHBOUR: 'it returns false'. Refute it at one input. -/
def timeoutBasesWrong : ChangeSpec := { name := "timeoutBases", fn := fun _ => fun
  | [d1, d2, d3, d4] => { results := [.lit (.bool false)], args := [d1, d2, d3, d4] }
  | _ => none }
def TimeoutBasesWrongFalsely : Prop := timeoutBasesRow.holds Tryd.pinned (OpenSpec.ofChange timeoutBasesWrong)

/-- 'bafflelaw25.TimeoutAll': WHATEVER THE INPUT: true; the input reads as it did. -/
def timeoutAllSpec : ChangeSpec := { name := "timeoutAll", fn := fun _ => fun
  | [d1, d2, d3] => { results := [.lit (.bool true)], args := [d1, d2, d3] }
  | _ => none }
def timeoutAllRow : OpenClaim := { program := "ytkcgijkccpiljaadoor", sum := "7873bb13ed4f324bdfde4061ff44bb4dc77c96663c05427d14226692874e6c34", func := "baffle/bafflelaw25.TimeoutAll", spec := "timeoutAll", unfollowed := true, recurses := true, named := ["baffle/timeout.names"], apart := false, laid := [("baffle/timeout.names", laid_baffle_timeout_names)] }
def TimeoutAllSaid : Prop := timeoutAllRow.holds Tryd.pinned (OpenSpec.ofChange timeoutAllSpec)

/-- ITS FALSE NEIGHBOUR: 'it returns false'. Refute it at one input. -/
def timeoutAllWrong : ChangeSpec := { name := "timeoutAll", fn := fun _ => fun
  | [d1, d2, d3] => { results := [.lit (.bool false)], args := [d1, d2, d3] }
  | _ => none }
def TimeoutAllWrongFalsely : Prop := timeoutAllRow.holds Tryd.pinned (OpenSpec.ofChange timeoutAllWrong)

/-- 'bafflelaw25.TimeoutWrong': WHATEVER THE INPUT: true; the input reads as it did. -/
def timeoutWrongSpec : ChangeSpec := { name := "timeoutWrong", fn := fun _ => fun
  | [d1, d2, d3] => { results := [.lit (.bool true)], args := [d1, d2, d3] }
  | _ => none }
def timeoutWrongRow : OpenClaim := { program := "ytkcgijkccpiljaadoor", sum := "7873bb13ed4f324bdfde4061ff44bb4dc77c96663c05427d14226692874e6c34", func := "baffle/bafflelaw25.TimeoutWrong", spec := "timeoutWrong", unfollowed := true, recurses := true, named := ["baffle/timeout.names"], apart := false, laid := [("baffle/timeout.names", laid_baffle_timeout_names)] }
def TimeoutWrongSaid : Prop := timeoutWrongRow.holds Tryd.pinned (OpenSpec.ofChange timeoutWrongSpec)

/-- ITS FALSE NEIGHBOUR: 'it returns false'. Refute it at one input. -/
def timeoutWrongWrong : ChangeSpec := { name := "timeoutWrong", fn := fun _ => fun
  | [d1, d2, d3] => { results := [.lit (.bool false)], args := [d1, d2, d3] }
  | _ => none }
def TimeoutWrongWrongFalsely : Prop := timeoutWrongRow.holds Tryd.pinned (OpenSpec.ofChange timeoutWrongWrong)

/-- 'bafflelaw25.TimeoutSmall': WHATEVER THE INPUT: true; the input reads as it did. -/
def timeoutSmallSpec : ChangeSpec := { name := "timeoutSmall", fn := fun _ => fun
  | [] => { results := [.lit (.bool true)], args := [] }
  | _ => none }
def timeoutSmallRow : OpenClaim := { program := "ytkcgijkccpiljaadoor", sum := "7873bb13ed4f324bdfde4061ff44bb4dc77c96663c05427d14226692874e6c34", func := "baffle/bafflelaw25.TimeoutSmall", spec := "timeoutSmall", unfollowed := true, recurses := true, named := ["baffle/timeout.names"], apart := false, laid := [("baffle/timeout.names", laid_baffle_timeout_names)] }
def TimeoutSmallSaid : Prop := timeoutSmallRow.holds Tryd.pinned (OpenSpec.ofChange timeoutSmallSpec)

/-- ITS FALSE NEIGHBOUR: 'it returns false'. Refute it at one input. -/
def timeoutSmallWrong : ChangeSpec := { name := "timeoutSmall", fn := fun _ => fun
  | [] => { results := [.lit (.bool false)], args := [] }
  | _ => none }
def TimeoutSmallWrongFalsely : Prop := timeoutSmallRow.holds Tryd.pinned (OpenSpec.ofChange timeoutSmallWrong)

/- THE SECOND FORM. 'bulk': how many values and letters a reading holds, each counted each time it is reached (what is shared counts as often as it is met; a slice's spare places count too). A statement '..UptoSaid' is the law's where the arguments, and the package variables that the reading takes, are together of bulk at most 1048576: NARROWER than '..Said'. Prove '..Said' where nothing that the law and all that it calls make is longer than what came in: it says more and counts as full. Else prove '..UptoSaid'. A law counts once. -/
mutual
def uptoBulk {H : Type} : DataW H → Nat
  | .lit (.string bytes) => bytes.length + 1
  | .lit _ => 1
  | .nil => 1
  | .ptr d => uptoBulk d + 1
  | .slice elems spare => uptoBulkAll elems + uptoBulkAll spare + 1
  | .agg parts => uptoBulkAll parts + 1
  | .iface _ d => uptoBulk d + 1
  | .map entries => uptoBulkEntries entries + 1
  | .held _ => 1
def uptoBulkAll {H : Type} : List (DataW H) → Nat
  | [] => 0
  | d :: r => uptoBulk d + uptoBulkAll r
def uptoBulkEntries {H : Type} : List (Lit × DataW H) → Nat
  | [] => 0
  | x :: r => uptoBulkEntry x + uptoBulkEntries r
def uptoBulkEntry {H : Type} : Lit × DataW H → Nat
  | (.string bytes, d) => bytes.length + uptoBulk d + 1
  | (_, d) => uptoBulk d + 1
 end
def uptoSmall : (H : Type) → List (DataW H) → Bool := fun _ ds => decide (uptoBulkAll ds ≤ 1048576)
def OpenSpec.upto (s : _root_.Go.ChangeSpec) : _root_.Go.OpenSpec := { _root_.Go.OpenSpec.ofChange s with cond := some uptoSmall }

/-- 'bafflelaw25.TimeoutTells', WHERE WHAT IT READS IS OF BULK AT MOST 1048576: true; the input reads as it did. -/
def timeoutTellsUptoRow : OpenClaim := { program := "ytkcgijkccpiljaadoor", sum := "7873bb13ed4f324bdfde4061ff44bb4dc77c96663c05427d14226692874e6c34", func := "baffle/bafflelaw25.TimeoutTells", spec := "timeoutTells", unfollowed := true, recurses := true, named := ["baffle/timeout.names"], apart := false, laid := [("baffle/timeout.names", laid_baffle_timeout_names)], narrowed := true }
def TimeoutTellsUptoSaid : Prop := timeoutTellsUptoRow.holds Tryd.pinned (OpenSpec.upto timeoutTellsSpec)

/-- 'bafflelaw25.TimeoutScales', WHERE WHAT IT READS IS OF BULK AT MOST 1048576: true; the input reads as it did. -/
def timeoutScalesUptoRow : OpenClaim := { program := "ytkcgijkccpiljaadoor", sum := "7873bb13ed4f324bdfde4061ff44bb4dc77c96663c05427d14226692874e6c34", func := "baffle/bafflelaw25.TimeoutScales", spec := "timeoutScales", unfollowed := true, recurses := true, named := ["baffle/timeout.names"], apart := false, laid := [("baffle/timeout.names", laid_baffle_timeout_names)], narrowed := true }
def TimeoutScalesUptoSaid : Prop := timeoutScalesUptoRow.holds Tryd.pinned (OpenSpec.upto timeoutScalesSpec)

/-- 'bafflelaw25.TimeoutLonger', WHERE WHAT IT READS IS OF BULK AT MOST 1048576: true; the input reads as it did. -/
def timeoutLongerUptoRow : OpenClaim := { program := "ytkcgijkccpiljaadoor", sum := "7873bb13ed4f324bdfde4061ff44bb4dc77c96663c05427d14226692874e6c34", func := "baffle/bafflelaw25.TimeoutLonger", spec := "timeoutLonger", unfollowed := true, recurses := true, named := ["baffle/timeout.names"], apart := false, laid := [("baffle/timeout.names", laid_baffle_timeout_names)], narrowed := true }
def TimeoutLongerUptoSaid : Prop := timeoutLongerUptoRow.holds Tryd.pinned (OpenSpec.upto timeoutLongerSpec)

/-- 'bafflelaw25.TimeoutMost', WHERE WHAT IT READS IS OF BULK AT MOST 1048576: true; the input reads as it did. -/
def timeoutMostUptoRow : OpenClaim := { program := "ytkcgijkccpiljaadoor", sum := "7873bb13ed4f324bdfde4061ff44bb4dc77c96663c05427d14226692874e6c34", func := "baffle/bafflelaw25.TimeoutMost", spec := "timeoutMost", unfollowed := true, recurses := true, named := ["baffle/timeout.names"], apart := false, laid := [("baffle/timeout.names", laid_baffle_timeout_names)], narrowed := true }
def TimeoutMostUptoSaid : Prop := timeoutMostUptoRow.holds Tryd.pinned (OpenSpec.upto timeoutMostSpec)

/-- 'bafflelaw25.TimeoutNames', WHERE WHAT IT READS IS OF BULK AT MOST 1048576: true; the input reads as it did. -/
def timeoutNamesUptoRow : OpenClaim := { program := "ytkcgijkccpiljaadoor", sum := "7873bb13ed4f324bdfde4061ff44bb4dc77c96663c05427d14226692874e6c34", func := "baffle/bafflelaw25.TimeoutNames", spec := "timeoutNames", unfollowed := true, recurses := true, named := ["baffle/timeout.names"], apart := false, laid := [("baffle/timeout.names", laid_baffle_timeout_names)], narrowed := true }
def TimeoutNamesUptoSaid : Prop := timeoutNamesUptoRow.holds Tryd.pinned (OpenSpec.upto timeoutNamesSpec)

/-- 'bafflelaw25.TimeoutNamed', WHERE WHAT IT READS IS OF BULK AT MOST 1048576: true; the input reads as it did. -/
def timeoutNamedUptoRow : OpenClaim := { program := "ytkcgijkccpiljaadoor", sum := "7873bb13ed4f324bdfde4061ff44bb4dc77c96663c05427d14226692874e6c34", func := "baffle/bafflelaw25.TimeoutNamed", spec := "timeoutNamed", unfollowed := true, recurses := true, named := ["baffle/timeout.names"], apart := false, laid := [("baffle/timeout.names", laid_baffle_timeout_names)], narrowed := true }
def TimeoutNamedUptoSaid : Prop := timeoutNamedUptoRow.holds Tryd.pinned (OpenSpec.upto timeoutNamedSpec)

/-- 'bafflelaw25.TimeoutBases', WHERE WHAT IT READS IS OF BULK AT MOST 1048576: true; the input reads as it did. -/
def timeoutBasesUptoRow : OpenClaim := { program := "ytkcgijkccpiljaadoor", sum := "7873bb13ed4f324bdfde4061ff44bb4dc77c96663c05427d14226692874e6c34", func := "baffle/bafflelaw25.TimeoutBases", spec := "timeoutBases", unfollowed := true, recurses := true, named := ["baffle/timeout.names"], apart := false, laid := [("baffle/timeout.names", laid_baffle_timeout_names)], narrowed := true }
def TimeoutBasesUptoSaid : Prop := timeoutBasesUptoRow.holds Tryd.pinned (OpenSpec.upto timeoutBasesSpec)

/-- 'bafflelaw25.TimeoutAll', WHERE WHAT IT READS IS OF BULK AT MOST 1048576: true; the input reads as it did. -/
def timeoutAllUptoRow : OpenClaim := { program := "ytkcgijkccpiljaadoor", sum := "7873bb13ed4f324bdfde4061ff44bb4dc77c96663c05427d14226692874e6c34", func := "baffle/bafflelaw25.TimeoutAll", spec := "timeoutAll", unfollowed := true, recurses := true, named := ["baffle/timeout.names"], apart := false, laid := [("baffle/timeout.names", laid_baffle_timeout_names)], narrowed := true }
def TimeoutAllUptoSaid : Prop := timeoutAllUptoRow.holds Tryd.pinned (OpenSpec.upto timeoutAllSpec)

/-- 'bafflelaw25.TimeoutWrong', WHERE WHAT IT READS IS OF BULK AT MOST 1048576: true; the input reads as it did. -/
def timeoutWrongUptoRow : OpenClaim := { program := "ytkcgijkccpiljaadoor", sum := "7873bb13ed4f324bdfde4061ff44bb4dc77c96663c05427d14226692874e6c34", func := "baffle/bafflelaw25.TimeoutWrong", spec := "timeoutWrong", unfollowed := true, recurses := true, named := ["baffle/timeout.names"], apart := false, laid := [("baffle/timeout.names", laid_baffle_timeout_names)], narrowed := true }
def TimeoutWrongUptoSaid : Prop := timeoutWrongUptoRow.holds Tryd.pinned (OpenSpec.upto timeoutWrongSpec)

/-- 'bafflelaw25.TimeoutSmall', WHERE WHAT IT READS IS OF BULK AT MOST 1048576: true; the input reads as it did. -/
def timeoutSmallUptoRow : OpenClaim := { program := "ytkcgijkccpiljaadoor", sum := "7873bb13ed4f324bdfde4061ff44bb4dc77c96663c05427d14226692874e6c34", func := "baffle/bafflelaw25.TimeoutSmall", spec := "timeoutSmall", unfollowed := true, recurses := true, named := ["baffle/timeout.names"], apart := false, laid := [("baffle/timeout.names", laid_baffle_timeout_names)], narrowed := true }
def TimeoutSmallUptoSaid : Prop := timeoutSmallUptoRow.holds Tryd.pinned (OpenSpec.upto timeoutSmallSpec)

end Rows
end Go.Proofs.YtkcgijkccpiljaaDoor
