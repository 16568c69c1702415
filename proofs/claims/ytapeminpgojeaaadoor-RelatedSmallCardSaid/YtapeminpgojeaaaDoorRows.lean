/-
  NARROWER THAN 'FOR EVERY INPUT', by the rows' own cells (each row's printed sentence says how): RelatedTells: laid · RelatedBelongs: laid · RelatedTurned: laid · RelatedKinds: laid · RelatedFinds: laid · RelatedSmall: laid · RelatedOne: laid · RelatedWrong: laid.
  DERIVED. THE GIVEN ROWS OF THIS SEAT. 8 by the template 'for every input the law returns true; each argument reads behind the call as it read before'; 0 by the template 'total and deterministic' (their statements: YtapeminpgojeaaaDoorTotals.lean).
  GIVEN WITH THE SEED: the statements are not yours to turn. If you find one false, say at which input.
  Laid BY PROGRAM, IN A SANDBOX (cutbox-rows.mjs): the forced cells as the released guide's own fill.sh prints them over the translation 519d43b99719ffaa… (all of the seat's roots in one cut). By AI agents, Wed Nov 11 2026. No macro, syntax, notation, axiom, sorry.
-/
import Derived.Test.YtapeminpgojeaaaDoorChecked
import GoSem.Claim
import GoSem.ClaimJoined
import GoSem.ClaimMapViews
import Derived.JoinedTies
import Derived.KernelRfl
namespace Go.Proofs.YtapeminpgojeaaaDoor
/- THE CELL 'sum', in the pinned program and in every row, IS THE sha256 OF THE DUMP (.gsa) THAT YtapeminpgojeaaaDoorProg.lean LOADS. Nothing in Lean hashes anything: it is a label: what it is worth is what the hold of that sum in a sandbox is worth. -/
noncomputable def Tryd.pinned : Pinned := { name := "ytapeminpgojeaaadoor", sum := "519d43b99719ffaa4e39dd5a5bbbb3c1fff80ede06f2dd160cc3b774a90d0912", checked := Tryd.checked }
namespace Rows
def none {H : Type} : Left H := { results := [], args := [] }

/- WHAT THE LISTED PACKAGE-LEVEL VARIABLES READ AS WHEN THE CALL BEGINS. Each datum BY PROGRAM (the guide's laid-datum.mjs) off the statement by which the dump's own 'gosem.cut.vars' lays the variable. In a bare row this is a premise. The card (YtapeminpgojeaaaDoorCards.lean) ties it to the program's text. -/
def laid_baffle_stream_answers {H : Type} : DataW H := .map [(.int .u8 8, .lit (.int .u8 0)), (.int .u8 13, .lit (.int .u8 14)), (.int .u8 17, .lit (.int .u8 18))]
def laid_baffle_related_kinds {H : Type} : DataW H := .map [(.int .u8 1, .agg [.lit (.int .u8 3), .lit (.int .u8 4)]), (.int .u8 6, .agg [.lit (.int .u8 1), .lit (.int .u8 1)]), (.int .u8 17, .agg [.lit (.int .u8 2), .lit (.int .u8 2)])]

/-- 'bafflelaw23.RelatedTells': WHATEVER THE INPUT: true; the input reads as it did. -/
def relatedTellsSpec : ChangeSpec := { name := "relatedTells", fn := fun _ => fun
  | [d1, d2, d3, d4] => { results := [.lit (.bool true)], args := [d1, d2, d3, d4] }
  | _ => none }
def relatedTellsRow : OpenClaim := { program := "ytapeminpgojeaaadoor", sum := "519d43b99719ffaa4e39dd5a5bbbb3c1fff80ede06f2dd160cc3b774a90d0912", func := "baffle/bafflelaw23.RelatedTells", spec := "relatedTells", unfollowed := true, recurses := true, named := ["baffle/related.kinds", "baffle/stream.answers"], apart := false, laid := [("baffle/stream.answers", laid_baffle_stream_answers), ("baffle/related.kinds", laid_baffle_related_kinds)] }
def RelatedTellsSaid : Prop := relatedTellsRow.holds Tryd.pinned (OpenSpec.ofChange relatedTellsSpec)

/-- ITS FALSE NEIGHBOUR: 'it returns false'. Refute it at one input. -/
def relatedTellsWrong : ChangeSpec := { name := "relatedTells", fn := fun _ => fun
  | [d1, d2, d3, d4] => { results := [.lit (.bool false)], args := [d1, d2, d3, d4] }
  | _ => none }
def RelatedTellsWrongFalsely : Prop := relatedTellsRow.holds Tryd.pinned (OpenSpec.ofChange relatedTellsWrong)

/-- 'bafflelaw23.RelatedBelongs': WHATEVER THE INPUT: true; the input reads as it did. -/
def relatedBelongsSpec : ChangeSpec := { name := "relatedBelongs", fn := fun _ => fun
  | [d1, d2, d3, d4, d5] => { results := [.lit (.bool true)], args := [d1, d2, d3, d4, d5] }
  | _ => none }
def relatedBelongsRow : OpenClaim := { program := "ytapeminpgojeaaadoor", sum := "519d43b99719ffaa4e39dd5a5bbbb3c1fff80ede06f2dd160cc3b774a90d0912", func := "baffle/bafflelaw23.RelatedBelongs", spec := "relatedBelongs", unfollowed := true, recurses := true, named := ["baffle/related.kinds", "baffle/stream.answers"], apart := false, laid := [("baffle/stream.answers", laid_baffle_stream_answers), ("baffle/related.kinds", laid_baffle_related_kinds)] }
def RelatedBelongsSaid : Prop := relatedBelongsRow.holds Tryd.pinned (OpenSpec.ofChange relatedBelongsSpec)

/-- ITS FALSE NEIGHBOUR: 'it returns false'. Refute it at one input. -/
def relatedBelongsWrong : ChangeSpec := { name := "relatedBelongs", fn := fun _ => fun
  | [d1, d2, d3, d4, d5] => { results := [.lit (.bool false)], args := [d1, d2, d3, d4, d5] }
  | _ => none }
def RelatedBelongsWrongFalsely : Prop := relatedBelongsRow.holds Tryd.pinned (OpenSpec.ofChange relatedBelongsWrong)

/-- 'bafflelaw23.RelatedTurned': WHATEVER THE INPUT: true; the input reads as it did. -/
def relatedTurnedSpec : ChangeSpec := { name := "relatedTurned", fn := fun _ => fun
  | [d1, d2, d3, d4, d5, d6] => { results := [.lit (.bool true)], args := [d1, d2, d3, d4, d5, d6] }
  | _ => none }
def relatedTurnedRow : OpenClaim := { program := "ytapeminpgojeaaadoor", sum := "519d43b99719ffaa4e39dd5a5bbbb3c1fff80ede06f2dd160cc3b774a90d0912", func := "baffle/bafflelaw23.RelatedTurned", spec := "relatedTurned", unfollowed := true, recurses := true, named := ["baffle/related.kinds", "baffle/stream.answers"], apart := false, laid := [("baffle/stream.answers", laid_baffle_stream_answers), ("baffle/related.kinds", laid_baffle_related_kinds)] }
def RelatedTurnedSaid : Prop := relatedTurnedRow.holds Tryd.pinned (OpenSpec.ofChange relatedTurnedSpec)

/-- ITS FALSE NEIGHBOUR: 'it returns false'. Refute it at one input. -/
def relatedTurnedWrong : ChangeSpec := { name := "relatedTurned", fn := fun _ => fun
  | [d1, d2, d3, d4, d5, d6] => { results := [.lit (.bool false)], args := [d1, d2, d3, d4, d5, d6] }
  | _ => none }
def RelatedTurnedWrongFalsely : Prop := relatedTurnedRow.holds Tryd.pinned (OpenSpec.ofChange relatedTurnedWrong)

/-- 'bafflelaw23.RelatedKinds': WHATEVER THE INPUT: true; the input reads as it did. -/
def relatedKindsSpec : ChangeSpec := { name := "relatedKinds", fn := fun _ => fun
  | [d1, d2, d3] => { results := [.lit (.bool true)], args := [d1, d2, d3] }
  | _ => none }
def relatedKindsRow : OpenClaim := { program := "ytapeminpgojeaaadoor", sum := "519d43b99719ffaa4e39dd5a5bbbb3c1fff80ede06f2dd160cc3b774a90d0912", func := "baffle/bafflelaw23.RelatedKinds", spec := "relatedKinds", unfollowed := true, recurses := true, named := ["baffle/related.kinds", "baffle/stream.answers"], apart := false, laid := [("baffle/stream.answers", laid_baffle_stream_answers), ("baffle/related.kinds", laid_baffle_related_kinds)] }
def RelatedKindsSaid : Prop := relatedKindsRow.holds Tryd.pinned (OpenSpec.ofChange relatedKindsSpec)

/-- ITS FALSE NEIGHBOUR: 'it returns false'. Refute it at one input. -/
def relatedKindsWrong : ChangeSpec := { name := "relatedKinds", fn := fun _ => fun
  | [d1, d2, d3] => { results := [.lit (.bool false)], args := [d1, d2, d3] }
  | _ => none }
def RelatedKindsWrongFalsely : Prop := relatedKindsRow.holds Tryd.pinned (OpenSpec.ofChange relatedKindsWrong)

/-- 'bafflelaw23.RelatedFinds': WHATEVER THE INPUT: true; the input reads as it did. -/
def relatedFindsSpec : ChangeSpec := { name := "relatedFinds", fn := fun _ => fun
  | [d1, d2, d3] => { results := [.lit (.bool true)], args := [d1, d2, d3] }
  | _ => none }
def relatedFindsRow : OpenClaim := { program := "ytapeminpgojeaaadoor", sum := "519d43b99719ffaa4e39dd5a5bbbb3c1fff80ede06f2dd160cc3b774a90d0912", func := "baffle/bafflelaw23.RelatedFinds", spec := "relatedFinds", unfollowed := true, recurses := true, named := ["baffle/related.kinds", "baffle/stream.answers"], apart := false, laid := [("baffle/stream.answers", laid_baffle_stream_answers), ("baffle/related.kinds", laid_baffle_related_kinds)] }
def RelatedFindsSaid : Prop := relatedFindsRow.holds Tryd.pinned (OpenSpec.ofChange relatedFindsSpec)

/-- ITS FALSE NEIGHBOUR: 'it returns false'. Refute it at one input. -/
def relatedFindsWrong : ChangeSpec := { name := "relatedFinds", fn := fun _ => fun
  | [d1, d2, d3] => { results := [.lit (.bool false)], args := [d1, d2, d3] }
  | _ => none }
def RelatedFindsWrongFalsely : Prop := relatedFindsRow.holds Tryd.pinned (OpenSpec.ofChange relatedFindsWrong)

/-- 'bafflelaw23.RelatedSmall': WHATEVER THE INPUT: true; the input reads as it did. -/
def relatedSmallSpec : ChangeSpec := { name := "relatedSmall", fn := fun _ => fun
  | [] => { results := [.lit (.bool true)], args := [] }
  | _ => none }
def relatedSmallRow : OpenClaim := { program := "ytapeminpgojeaaadoor", sum := "519d43b99719ffaa4e39dd5a5bbbb3c1fff80ede06f2dd160cc3b774a90d0912", func := "baffle/bafflelaw23.RelatedSmall", spec := "relatedSmall", unfollowed := true, recurses := true, named := ["baffle/related.kinds", "baffle/stream.answers"], apart := false, laid := [("baffle/stream.answers", laid_baffle_stream_answers), ("baffle/related.kinds", laid_baffle_related_kinds)] }
def RelatedSmallSaid : Prop := relatedSmallRow.holds Tryd.pinned (OpenSpec.ofChange relatedSmallSpec)

/-- ITS FALSE NEIGHBOUR: 'it returns false'. Refute it at one input. -/
def relatedSmallWrong : ChangeSpec := { name := "relatedSmall", fn := fun _ => fun
  | [] => { results := [.lit (.bool false)], args := [] }
  | _ => none }
def RelatedSmallWrongFalsely : Prop := relatedSmallRow.holds Tryd.pinned (OpenSpec.ofChange relatedSmallWrong)

/-- 'bafflelaw23.RelatedOne': WHATEVER THE INPUT: true; the input reads as it did. -/
def relatedOneSpec : ChangeSpec := { name := "relatedOne", fn := fun _ => fun
  | [d1, d2, d3, d4] => { results := [.lit (.bool true)], args := [d1, d2, d3, d4] }
  | _ => none }
def relatedOneRow : OpenClaim := { program := "ytapeminpgojeaaadoor", sum := "519d43b99719ffaa4e39dd5a5bbbb3c1fff80ede06f2dd160cc3b774a90d0912", func := "baffle/bafflelaw23.RelatedOne", spec := "relatedOne", unfollowed := true, recurses := true, named := ["baffle/related.kinds", "baffle/stream.answers"], apart := false, laid := [("baffle/stream.answers", laid_baffle_stream_answers), ("baffle/related.kinds", laid_baffle_related_kinds)] }
def RelatedOneSaid : Prop := relatedOneRow.holds Tryd.pinned (OpenSpec.ofChange relatedOneSpec)

/-- ITS FALSE NEIGHBOUR: 'it returns false'. Refute it at one input. -/
def relatedOneWrong : ChangeSpec := { name := "relatedOne", fn := fun _ => fun
  | [d1, d2, d3, d4] => { results := [.lit (.bool false)], args := [d1, d2, d3, d4] }
  | _ => none }
def RelatedOneWrongFalsely : Prop := relatedOneRow.holds Tryd.pinned (OpenSpec.ofChange relatedOneWrong)

/-- 'bafflelaw23.RelatedWrong': WHATEVER THE INPUT: true; the input reads as it did. -/
def relatedWrongSpec : ChangeSpec := { name := "relatedWrong", fn := fun _ => fun
  | [d1, d2, d3, d4, d5] => { results := [.lit (.bool true)], args := [d1, d2, d3, d4, d5] }
  | _ => none }
def relatedWrongRow : OpenClaim := { program := "ytapeminpgojeaaadoor", sum := "519d43b99719ffaa4e39dd5a5bbbb3c1fff80ede06f2dd160cc3b774a90d0912", func := "baffle/bafflelaw23.RelatedWrong", spec := "relatedWrong", unfollowed := true, recurses := true, named := ["baffle/related.kinds", "baffle/stream.answers"], apart := false, laid := [("baffle/stream.answers", laid_baffle_stream_answers), ("baffle/related.kinds", laid_baffle_related_kinds)] }
def RelatedWrongSaid : Prop := relatedWrongRow.holds Tryd.pinned (OpenSpec.ofChange relatedWrongSpec)

/-- ITS FALSE NEIGHBOUR: 'it returns false'. Refute it at one input. -/
def relatedWrongWrong : ChangeSpec := { name := "relatedWrong", fn := fun _ => fun
  | [d1, d2, d3, d4, d5] => { results := [.lit (.bool false)], args := [d1, d2, d3, d4, d5] }
  | _ => none }
def RelatedWrongWrongFalsely : Prop := relatedWrongRow.holds Tryd.pinned (OpenSpec.ofChange relatedWrongWrong)

/- THE SECOND FORM. 'bulk': how many values and letters a reading holds, each counted each time it is reached (what is shared counts as often as it is met; a slice's spare places count too). A statement '..UptoSaid' is the law's where the arguments, and the package variables that the reading takes, are together of bulk at most 1048576: NARROWER than '..Said'. Prove '..Said' where nothing that the law and all that it calls make is longer than what came in: it says more and counts as full. Else prove '..UptoSaid'. A law counts once. -/
mutual
def uptoBulk {H : Type} : DataW H → Nat
  | .lit (.string bytes) => bytes.length + 1
  | .lit _ => 1
  | .nil => 1
  | .ptr d => uptoBulk d + 1
  | .slice elems spare => uptoBulkAll elems + uptoBulkAll spare + 1
  | .agg parts => uptoBulkAll parts + 1
  | .iface _ d => uptoBulk d + 1
  | .map entries => uptoBulkEntries entries + 1
  | .held _ => 1
def uptoBulkAll {H : Type} : List (DataW H) → Nat
  | [] => 0
  | d :: r => uptoBulk d + uptoBulkAll r
def uptoBulkEntries {H : Type} : List (Lit × DataW H) → Nat
  | [] => 0
  | x :: r => uptoBulkEntry x + uptoBulkEntries r
def uptoBulkEntry {H : Type} : Lit × DataW H → Nat
  | (.string bytes, d) => bytes.length + uptoBulk d + 1
  | (_, d) => uptoBulk d + 1
 end
def uptoSmall : (H : Type) → List (DataW H) → Bool := fun _ ds => decide (uptoBulkAll ds ≤ 1048576)
def OpenSpec.upto (s : _root_.Go.ChangeSpec) : _root_.Go.OpenSpec := { _root_.Go.OpenSpec.ofChange s with cond := some uptoSmall }

/-- 'bafflelaw23.RelatedTells', WHERE WHAT IT READS IS OF BULK AT MOST 1048576: true; the input reads as it did. -/
def relatedTellsUptoRow : OpenClaim := { program := "ytapeminpgojeaaadoor", sum := "519d43b99719ffaa4e39dd5a5bbbb3c1fff80ede06f2dd160cc3b774a90d0912", func := "baffle/bafflelaw23.RelatedTells", spec := "relatedTells", unfollowed := true, recurses := true, named := ["baffle/related.kinds", "baffle/stream.answers"], apart := false, laid := [("baffle/stream.answers", laid_baffle_stream_answers), ("baffle/related.kinds", laid_baffle_related_kinds)], narrowed := true }
def RelatedTellsUptoSaid : Prop := relatedTellsUptoRow.holds Tryd.pinned (OpenSpec.upto relatedTellsSpec)

/-- 'bafflelaw23.RelatedBelongs', WHERE WHAT IT READS IS OF BULK AT MOST 1048576: true; the input reads as it did. -/
def relatedBelongsUptoRow : OpenClaim := { program := "ytapeminpgojeaaadoor", sum := "519d43b99719ffaa4e39dd5a5bbbb3c1fff80ede06f2dd160cc3b774a90d0912", func := "baffle/bafflelaw23.RelatedBelongs", spec := "relatedBelongs", unfollowed := true, recurses := true, named := ["baffle/related.kinds", "baffle/stream.answers"], apart := false, laid := [("baffle/stream.answers", laid_baffle_stream_answers), ("baffle/related.kinds", laid_baffle_related_kinds)], narrowed := true }
def RelatedBelongsUptoSaid : Prop := relatedBelongsUptoRow.holds Tryd.pinned (OpenSpec.upto relatedBelongsSpec)

/-- 'bafflelaw23.RelatedTurned', WHERE WHAT IT READS IS OF BULK AT MOST 1048576: true; the input reads as it did. -/
def relatedTurnedUptoRow : OpenClaim := { program := "ytapeminpgojeaaadoor", sum := "519d43b99719ffaa4e39dd5a5bbbb3c1fff80ede06f2dd160cc3b774a90d0912", func := "baffle/bafflelaw23.RelatedTurned", spec := "relatedTurned", unfollowed := true, recurses := true, named := ["baffle/related.kinds", "baffle/stream.answers"], apart := false, laid := [("baffle/stream.answers", laid_baffle_stream_answers), ("baffle/related.kinds", laid_baffle_related_kinds)], narrowed := true }
def RelatedTurnedUptoSaid : Prop := relatedTurnedUptoRow.holds Tryd.pinned (OpenSpec.upto relatedTurnedSpec)

/-- 'bafflelaw23.RelatedKinds', WHERE WHAT IT READS IS OF BULK AT MOST 1048576: true; the input reads as it did. -/
def relatedKindsUptoRow : OpenClaim := { program := "ytapeminpgojeaaadoor", sum := "519d43b99719ffaa4e39dd5a5bbbb3c1fff80ede06f2dd160cc3b774a90d0912", func := "baffle/bafflelaw23.RelatedKinds", spec := "relatedKinds", unfollowed := true, recurses := true, named := ["baffle/related.kinds", "baffle/stream.answers"], apart := false, laid := [("baffle/stream.answers", laid_baffle_stream_answers), ("baffle/related.kinds", laid_baffle_related_kinds)], narrowed := true }
def RelatedKindsUptoSaid : Prop := relatedKindsUptoRow.holds Tryd.pinned (OpenSpec.upto relatedKindsSpec)

/-- 'bafflelaw23.RelatedFinds', WHERE WHAT IT READS IS OF BULK AT MOST 1048576: true; the input reads as it did. -/
def relatedFindsUptoRow : OpenClaim := { program := "ytapeminpgojeaaadoor", sum := "519d43b99719ffaa4e39dd5a5bbbb3c1fff80ede06f2dd160cc3b774a90d0912", func := "baffle/bafflelaw23.RelatedFinds", spec := "relatedFinds", unfollowed := true, recurses := true, named := ["baffle/related.kinds", "baffle/stream.answers"], apart := false, laid := [("baffle/stream.answers", laid_baffle_stream_answers), ("baffle/related.kinds", laid_baffle_related_kinds)], narrowed := true }
def RelatedFindsUptoSaid : Prop := relatedFindsUptoRow.holds Tryd.pinned (OpenSpec.upto relatedFindsSpec)

/-- 'bafflelaw23.RelatedSmall', WHERE WHAT IT READS IS OF BULK AT MOST 1048576: true; the input reads as it did. -/
def relatedSmallUptoRow : OpenClaim := { program := "ytapeminpgojeaaadoor", sum := "519d43b99719ffaa4e39dd5a5bbbb3c1fff80ede06f2dd160cc3b774a90d0912", func := "baffle/bafflelaw23.RelatedSmall", spec := "relatedSmall", unfollowed := true, recurses := true, named := ["baffle/related.kinds", "baffle/stream.answers"], apart := false, laid := [("baffle/stream.answers", laid_baffle_stream_answers), ("baffle/related.kinds", laid_baffle_related_kinds)], narrowed := true }
def RelatedSmallUptoSaid : Prop := relatedSmallUptoRow.holds Tryd.pinned (OpenSpec.upto relatedSmallSpec)

/-- 'bafflelaw23.RelatedOne', WHERE WHAT IT READS IS OF BULK AT MOST 1048576: true; the input reads as it did. -/
def relatedOneUptoRow : OpenClaim := { program := "ytapeminpgojeaaadoor", sum := "519d43b99719ffaa4e39dd5a5bbbb3c1fff80ede06f2dd160cc3b774a90d0912", func := "baffle/bafflelaw23.RelatedOne", spec := "relatedOne", unfollowed := true, recurses := true, named := ["baffle/related.kinds", "baffle/stream.answers"], apart := false, laid := [("baffle/stream.answers", laid_baffle_stream_answers), ("baffle/related.kinds", laid_baffle_related_kinds)], narrowed := true }
def RelatedOneUptoSaid : Prop := relatedOneUptoRow.holds Tryd.pinned (OpenSpec.upto relatedOneSpec)

/-- 'bafflelaw23.RelatedWrong', WHERE WHAT IT READS IS OF BULK AT MOST 1048576: true; the input reads as it did. -/
def relatedWrongUptoRow : OpenClaim := { program := "ytapeminpgojeaaadoor", sum := "519d43b99719ffaa4e39dd5a5bbbb3c1fff80ede06f2dd160cc3b774a90d0912", func := "baffle/bafflelaw23.RelatedWrong", spec := "relatedWrong", unfollowed := true, recurses := true, named := ["baffle/related.kinds", "baffle/stream.answers"], apart := false, laid := [("baffle/stream.answers", laid_baffle_stream_answers), ("baffle/related.kinds", laid_baffle_related_kinds)], narrowed := true }
def RelatedWrongUptoSaid : Prop := relatedWrongUptoRow.holds Tryd.pinned (OpenSpec.upto relatedWrongSpec)

end Rows
end Go.Proofs.YtapeminpgojeaaaDoor
