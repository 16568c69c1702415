/-
  NARROWER THAN 'FOR EVERY INPUT', by the rows' own cells (each row's printed sentence says how): StreamTells: laid · StreamAgain: laid · StreamTypes: laid · StreamWrong: laid · StreamRuns: laid · StreamSmall: laid · StreamAnswers: laid.
  DERIVED. THE GIVEN ROWS OF THIS SEAT. 7 by the template 'for every input the law returns true; each argument reads behind the call as it read before'; 0 by the template 'total and deterministic' (their statements: YtjmcpgagbjmfgaaDoorTotals.lean).
  GIVEN WITH THE SEED: the statements are not yours to turn. If you find one false, say at which input.
  Laid BY PROGRAM, IN A SANDBOX (cutbox-rows.mjs): the forced cells as the released guide's own fill.sh prints them over the translation 8b641ffc7fffbf18… (all of the seat's roots in one cut). By AI agents, Wed Nov 11 2026. No macro, syntax, notation, axiom, sorry.
-/
import Derived.Test.YtjmcpgagbjmfgaaDoorChecked
import GoSem.Claim
import GoSem.ClaimJoined
import GoSem.ClaimMapViews
import Derived.JoinedTies
import Derived.KernelRfl
namespace Go.Proofs.YtjmcpgagbjmfgaaDoor
/- THE CELL 'sum', in the pinned program and in every row, IS THE sha256 OF THE DUMP (.gsa) THAT YtjmcpgagbjmfgaaDoorProg.lean LOADS. Nothing in Lean hashes anything: it is a label: what it is worth is what the hold of that sum in a sandbox is worth. -/
noncomputable def Tryd.pinned : Pinned := { name := "ytjmcpgagbjmfgaadoor", sum := "8b641ffc7fffbf18033ffb77b96bb1641dc98de584eef7bc9cb06c89d431b6eb", checked := Tryd.checked }
namespace Rows
def none {H : Type} : Left H := { results := [], args := [] }

/- WHAT THE LISTED PACKAGE-LEVEL VARIABLES READ AS WHEN THE CALL BEGINS. Each datum BY PROGRAM (the guide's laid-datum.mjs) off the statement by which the dump's own 'gosem.cut.vars' lays the variable. In a bare row this is a premise. The card (YtjmcpgagbjmfgaaDoorCards.lean) ties it to the program's text. -/
def laid_baffle_stream_answers {H : Type} : DataW H := .map [(.int .u8 8, .lit (.int .u8 0)), (.int .u8 13, .lit (.int .u8 14)), (.int .u8 17, .lit (.int .u8 18))]

/-- 'bafflelaw22.StreamTells': WHATEVER THE INPUT: true; the input reads as it did. -/
def streamTellsSpec : ChangeSpec := { name := "streamTells", fn := fun _ => fun
  | [d1, d2, d3, d4] => { results := [.lit (.bool true)], args := [d1, d2, d3, d4] }
  | _ => none }
def streamTellsRow : OpenClaim := { program := "ytjmcpgagbjmfgaadoor", sum := "8b641ffc7fffbf18033ffb77b96bb1641dc98de584eef7bc9cb06c89d431b6eb", func := "baffle/bafflelaw22.StreamTells", spec := "streamTells", unfollowed := true, recurses := true, named := ["baffle/stream.answers"], apart := false, laid := [("baffle/stream.answers", laid_baffle_stream_answers)] }
def StreamTellsSaid : Prop := streamTellsRow.holds Tryd.pinned (OpenSpec.ofChange streamTellsSpec)

/-- ITS FALSE NEIGHBOUR: 'it returns false'. Refute it at one input. -/
def streamTellsWrong : ChangeSpec := { name := "streamTells", fn := fun _ => fun
  | [d1, d2, d3, d4] => { results := [.lit (.bool false)], args := [d1, d2, d3, d4] }
  | _ => none }
def StreamTellsWrongFalsely : Prop := streamTellsRow.holds Tryd.pinned (OpenSpec.ofChange streamTellsWrong)

/-- 'bafflelaw22.StreamAgain': WHATEVER THE INPUT: true; the input reads as it did. -/
def streamAgainSpec : ChangeSpec := { name := "streamAgain", fn := fun _ => fun
  | [d1, d2, d3] => { results := [.lit (.bool true)], args := [d1, d2, d3] }
  | _ => none }
def streamAgainRow : OpenClaim := { program := "ytjmcpgagbjmfgaadoor", sum := "8b641ffc7fffbf18033ffb77b96bb1641dc98de584eef7bc9cb06c89d431b6eb", func := "baffle/bafflelaw22.StreamAgain", spec := "streamAgain", unfollowed := true, recurses := true, named := ["baffle/stream.answers"], apart := false, laid := [("baffle/stream.answers", laid_baffle_stream_answers)] }
def StreamAgainSaid : Prop := streamAgainRow.holds Tryd.pinned (OpenSpec.ofChange streamAgainSpec)

/-- ITS FALSE NEIGHBOUR: 'it returns false'. Refute it at one input. -/
def streamAgainWrong : ChangeSpec := { name := "streamAgain", fn := fun _ => fun
  | [d1, d2, d3] => { results := [.lit (.bool false)], args := [d1, d2, d3] }
  | _ => none }
def StreamAgainWrongFalsely : Prop := streamAgainRow.holds Tryd.pinned (OpenSpec.ofChange streamAgainWrong)

/-- 'bafflelaw22.StreamTypes': WHATEVER THE INPUT: true; the input reads as it did. -/
def streamTypesSpec : ChangeSpec := { name := "streamTypes", fn := fun _ => fun
  | [d1, d2] => { results := [.lit (.bool true)], args := [d1, d2] }
  | _ => none }
def streamTypesRow : OpenClaim := { program := "ytjmcpgagbjmfgaadoor", sum := "8b641ffc7fffbf18033ffb77b96bb1641dc98de584eef7bc9cb06c89d431b6eb", func := "baffle/bafflelaw22.StreamTypes", spec := "streamTypes", unfollowed := true, recurses := true, named := ["baffle/stream.answers"], apart := false, laid := [("baffle/stream.answers", laid_baffle_stream_answers)] }
def StreamTypesSaid : Prop := streamTypesRow.holds Tryd.pinned (OpenSpec.ofChange streamTypesSpec)

/-- ITS FALSE NEIGHBOUR: 'it returns false'. Refute it at one input. -/
def streamTypesWrong : ChangeSpec := { name := "streamTypes", fn := fun _ => fun
  | [d1, d2] => { results := [.lit (.bool false)], args := [d1, d2] }
  | _ => none }
def StreamTypesWrongFalsely : Prop := streamTypesRow.holds Tryd.pinned (OpenSpec.ofChange streamTypesWrong)

/-- 'bafflelaw22.StreamWrong': WHATEVER THE INPUT: true; the input reads as it did. -/
def streamWrongSpec : ChangeSpec := { name := "streamWrong", fn := fun _ => fun
  | [d1, d2, d3, d4] => { results := [.lit (.bool true)], args := [d1, d2, d3, d4] }
  | _ => none }
def streamWrongRow : OpenClaim := { program := "ytjmcpgagbjmfgaadoor", sum := "8b641ffc7fffbf18033ffb77b96bb1641dc98de584eef7bc9cb06c89d431b6eb", func := "baffle/bafflelaw22.StreamWrong", spec := "streamWrong", unfollowed := true, recurses := true, named := ["baffle/stream.answers"], apart := false, laid := [("baffle/stream.answers", laid_baffle_stream_answers)] }
def StreamWrongSaid : Prop := streamWrongRow.holds Tryd.pinned (OpenSpec.ofChange streamWrongSpec)

/-- ITS FALSE NEIGHBOUR: 'it returns false'. Refute it at one input. -/
def streamWrongWrong : ChangeSpec := { name := "streamWrong", fn := fun _ => fun
  | [d1, d2, d3, d4] => { results := [.lit (.bool false)], args := [d1, d2, d3, d4] }
  | _ => none }
def StreamWrongWrongFalsely : Prop := streamWrongRow.holds Tryd.pinned (OpenSpec.ofChange streamWrongWrong)

/-- 'bafflelaw22.StreamRuns': WHATEVER THE INPUT: true; the input reads as it did. -/
def streamRunsSpec : ChangeSpec := { name := "streamRuns", fn := fun _ => fun
  | [d] => { results := [.lit (.bool true)], args := [d] }
  | _ => none }
def streamRunsRow : OpenClaim := { program := "ytjmcpgagbjmfgaadoor", sum := "8b641ffc7fffbf18033ffb77b96bb1641dc98de584eef7bc9cb06c89d431b6eb", func := "baffle/bafflelaw22.StreamRuns", spec := "streamRuns", unfollowed := true, recurses := true, named := ["baffle/stream.answers"], apart := false, laid := [("baffle/stream.answers", laid_baffle_stream_answers)] }
def StreamRunsSaid : Prop := streamRunsRow.holds Tryd.pinned (OpenSpec.ofChange streamRunsSpec)

/-- ITS FALSE NEIGHBOUR: 'it returns false'. Refute it at one input. -/
def streamRunsWrong : ChangeSpec := { name := "streamRuns", fn := fun _ => fun
  | [d] => { results := [.lit (.bool false)], args := [d] }
  | _ => none }
def StreamRunsWrongFalsely : Prop := streamRunsRow.holds Tryd.pinned (OpenSpec.ofChange streamRunsWrong)

/-- 'bafflelaw22.StreamSmall': WHATEVER THE INPUT: true; the input reads as it did. -/
def streamSmallSpec : ChangeSpec := { name := "streamSmall", fn := fun _ => fun
  | [] => { results := [.lit (.bool true)], args := [] }
  | _ => none }
def streamSmallRow : OpenClaim := { program := "ytjmcpgagbjmfgaadoor", sum := "8b641ffc7fffbf18033ffb77b96bb1641dc98de584eef7bc9cb06c89d431b6eb", func := "baffle/bafflelaw22.StreamSmall", spec := "streamSmall", unfollowed := true, recurses := true, named := ["baffle/stream.answers"], apart := false, laid := [("baffle/stream.answers", laid_baffle_stream_answers)] }
def StreamSmallSaid : Prop := streamSmallRow.holds Tryd.pinned (OpenSpec.ofChange streamSmallSpec)

/-- ITS FALSE NEIGHBOUR: 'it returns false'. Refute it at one input. -/
def streamSmallWrong : ChangeSpec := { name := "streamSmall", fn := fun _ => fun
  | [] => { results := [.lit (.bool false)], args := [] }
  | _ => none }
def StreamSmallWrongFalsely : Prop := streamSmallRow.holds Tryd.pinned (OpenSpec.ofChange streamSmallWrong)

/-- 'bafflelaw22.StreamAnswers': WHATEVER THE INPUT: true; the input reads as it did. -/
def streamAnswersSpec : ChangeSpec := { name := "streamAnswers", fn := fun _ => fun
  | [d1, d2] => { results := [.lit (.bool true)], args := [d1, d2] }
  | _ => none }
def streamAnswersRow : OpenClaim := { program := "ytjmcpgagbjmfgaadoor", sum := "8b641ffc7fffbf18033ffb77b96bb1641dc98de584eef7bc9cb06c89d431b6eb", func := "baffle/bafflelaw22.StreamAnswers", spec := "streamAnswers", unfollowed := true, recurses := true, named := ["baffle/stream.answers"], apart := false, laid := [("baffle/stream.answers", laid_baffle_stream_answers)] }
def StreamAnswersSaid : Prop := streamAnswersRow.holds Tryd.pinned (OpenSpec.ofChange streamAnswersSpec)

/-- ITS FALSE NEIGHBOUR: 'it returns false'. Refute it at one input. -/
def streamAnswersWrong : ChangeSpec := { name := "streamAnswers", fn := fun _ => fun
  | [d1, d2] => { results := [.lit (.bool false)], args := [d1, d2] }
  | _ => none }
def StreamAnswersWrongFalsely : Prop := streamAnswersRow.holds Tryd.pinned (OpenSpec.ofChange streamAnswersWrong)

/- THE SECOND FORM. 'bulk': how many values and letters a reading holds, each counted each time it is reached (what is shared counts as often as it is met; a slice's spare places count too). A statement '..UptoSaid' is the law's where the arguments, and the package variables that the reading takes, are together of bulk at most 1048576: NARROWER than '..Said'. Prove '..Said' where nothing that the law and all that it calls make is longer than what came in: it says more and counts as full. Else prove '..UptoSaid'. A law counts once. -/
mutual
def uptoBulk {H : Type} : DataW H → Nat
  | .lit (.string bytes) => bytes.length + 1
  | .lit _ => 1
  | .nil => 1
  | .ptr d => uptoBulk d + 1
  | .slice elems spare => uptoBulkAll elems + uptoBulkAll spare + 1
  | .agg parts => uptoBulkAll parts + 1
  | .iface _ d => uptoBulk d + 1
  | .map entries => uptoBulkEntries entries + 1
  | .held _ => 1
def uptoBulkAll {H : Type} : List (DataW H) → Nat
  | [] => 0
  | d :: r => uptoBulk d + uptoBulkAll r
def uptoBulkEntries {H : Type} : List (Lit × DataW H) → Nat
  | [] => 0
  | x :: r => uptoBulkEntry x + uptoBulkEntries r
def uptoBulkEntry {H : Type} : Lit × DataW H → Nat
  | (.string bytes, d) => bytes.length + uptoBulk d + 1
  | (_, d) => uptoBulk d + 1
 end
def uptoSmall : (H : Type) → List (DataW H) → Bool := fun _ ds => decide (uptoBulkAll ds ≤ 1048576)
def OpenSpec.upto (s : _root_.Go.ChangeSpec) : _root_.Go.OpenSpec := { _root_.Go.OpenSpec.ofChange s with cond := some uptoSmall }

/-- 'bafflelaw22.StreamTells', WHERE WHAT IT READS IS OF BULK AT MOST 1048576: true; the input reads as it did. -/
def streamTellsUptoRow : OpenClaim := { program := "ytjmcpgagbjmfgaadoor", sum := "8b641ffc7fffbf18033ffb77b96bb1641dc98de584eef7bc9cb06c89d431b6eb", func := "baffle/bafflelaw22.StreamTells", spec := "streamTells", unfollowed := true, recurses := true, named := ["baffle/stream.answers"], apart := false, laid := [("baffle/stream.answers", laid_baffle_stream_answers)], narrowed := true }
def StreamTellsUptoSaid : Prop := streamTellsUptoRow.holds Tryd.pinned (OpenSpec.upto streamTellsSpec)

/-- 'bafflelaw22.StreamAgain', WHERE WHAT IT READS IS OF BULK AT MOST 1048576: true; the input reads as it did. -/
def streamAgainUptoRow : OpenClaim := { program := "ytjmcpgagbjmfgaadoor", sum := "8b641ffc7fffbf18033ffb77b96bb1641dc98de584eef7bc9cb06c89d431b6eb", func := "baffle/bafflelaw22.StreamAgain", spec := "streamAgain", unfollowed := true, recurses := true, named := ["baffle/stream.answers"], apart := false, laid := [("baffle/stream.answers", laid_baffle_stream_answers)], narrowed := true }
def StreamAgainUptoSaid : Prop := streamAgainUptoRow.holds Tryd.pinned (OpenSpec.upto streamAgainSpec)

/-- 'bafflelaw22.StreamTypes', WHERE WHAT IT READS IS OF BULK AT MOST 1048576: true; the input reads as it did. -/
def streamTypesUptoRow : OpenClaim := { program := "ytjmcpgagbjmfgaadoor", sum := "8b641ffc7fffbf18033ffb77b96bb1641dc98de584eef7bc9cb06c89d431b6eb", func := "baffle/bafflelaw22.StreamTypes", spec := "streamTypes", unfollowed := true, recurses := true, named := ["baffle/stream.answers"], apart := false, laid := [("baffle/stream.answers", laid_baffle_stream_answers)], narrowed := true }
def StreamTypesUptoSaid : Prop := streamTypesUptoRow.holds Tryd.pinned (OpenSpec.upto streamTypesSpec)

/-- 'bafflelaw22.StreamWrong', WHERE WHAT IT READS IS OF BULK AT MOST 1048576: true; the input reads as it did. -/
def streamWrongUptoRow : OpenClaim := { program := "ytjmcpgagbjmfgaadoor", sum := "8b641ffc7fffbf18033ffb77b96bb1641dc98de584eef7bc9cb06c89d431b6eb", func := "baffle/bafflelaw22.StreamWrong", spec := "streamWrong", unfollowed := true, recurses := true, named := ["baffle/stream.answers"], apart := false, laid := [("baffle/stream.answers", laid_baffle_stream_answers)], narrowed := true }
def StreamWrongUptoSaid : Prop := streamWrongUptoRow.holds Tryd.pinned (OpenSpec.upto streamWrongSpec)

/-- 'bafflelaw22.StreamRuns', WHERE WHAT IT READS IS OF BULK AT MOST 1048576: true; the input reads as it did. -/
def streamRunsUptoRow : OpenClaim := { program := "ytjmcpgagbjmfgaadoor", sum := "8b641ffc7fffbf18033ffb77b96bb1641dc98de584eef7bc9cb06c89d431b6eb", func := "baffle/bafflelaw22.StreamRuns", spec := "streamRuns", unfollowed := true, recurses := true, named := ["baffle/stream.answers"], apart := false, laid := [("baffle/stream.answers", laid_baffle_stream_answers)], narrowed := true }
def StreamRunsUptoSaid : Prop := streamRunsUptoRow.holds Tryd.pinned (OpenSpec.upto streamRunsSpec)

/-- 'bafflelaw22.StreamSmall', WHERE WHAT IT READS IS OF BULK AT MOST 1048576: true; the input reads as it did. -/
def streamSmallUptoRow : OpenClaim := { program := "ytjmcpgagbjmfgaadoor", sum := "8b641ffc7fffbf18033ffb77b96bb1641dc98de584eef7bc9cb06c89d431b6eb", func := "baffle/bafflelaw22.StreamSmall", spec := "streamSmall", unfollowed := true, recurses := true, named := ["baffle/stream.answers"], apart := false, laid := [("baffle/stream.answers", laid_baffle_stream_answers)], narrowed := true }
def StreamSmallUptoSaid : Prop := streamSmallUptoRow.holds Tryd.pinned (OpenSpec.upto streamSmallSpec)

/-- 'bafflelaw22.StreamAnswers', WHERE WHAT IT READS IS OF BULK AT MOST 1048576: true; the input reads as it did. -/
def streamAnswersUptoRow : OpenClaim := { program := "ytjmcpgagbjmfgaadoor", sum := "8b641ffc7fffbf18033ffb77b96bb1641dc98de584eef7bc9cb06c89d431b6eb", func := "baffle/bafflelaw22.StreamAnswers", spec := "streamAnswers", unfollowed := true, recurses := true, named := ["baffle/stream.answers"], apart := false, laid := [("baffle/stream.answers", laid_baffle_stream_answers)], narrowed := true }
def StreamAnswersUptoSaid : Prop := streamAnswersUptoRow.holds Tryd.pinned (OpenSpec.upto streamAnswersSpec)

end Rows
end Go.Proofs.YtjmcpgagbjmfgaaDoor
