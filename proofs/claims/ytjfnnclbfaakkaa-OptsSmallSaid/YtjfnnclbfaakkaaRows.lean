/-
  No cell of these rows narrows 'for every input' (looked for: loops, veiled, ifaces, maps, wideKeys, modest, calm, conditions, laid).
  DERIVED. THE GIVEN ROWS OF THIS SEAT. 10 by the template 'for every input the law returns true; each argument reads behind the call as it read before'; 0 by the template 'total and deterministic' (their statements: YtjfnnclbfaakkaaTotals.lean).
  GIVEN WITH THE SEED: the statements are not yours to turn. If you find one false, say at which input.
  Laid BY PROGRAM, IN A SANDBOX (cutbox-rows.mjs): the forced cells as the released guide's own fill.sh prints them over the translation e2de2bddf49a18ee… (all of the seat's roots in one cut). By AI agents, Wed Nov 11 2026. No macro, syntax, notation, axiom, sorry.
-/
import Derived.Test.YtjfnnclbfaakkaaChecked
import GoSem.Claim
import GoSem.ClaimJoined
import GoSem.ClaimMapViews
import Derived.JoinedTies
import Derived.KernelRfl
namespace Go.Proofs.Ytjfnnclbfaakkaa
/- THE CELL 'sum', in the pinned program and in every row, IS THE sha256 OF THE DUMP (.gsa) THAT YtjfnnclbfaakkaaProg.lean LOADS. Nothing in Lean hashes anything: it is a label: what it is worth is what the hold of that sum in a sandbox is worth. -/
noncomputable def Try.pinned : Pinned := { name := "ytjfnnclbfaakkaa", sum := "e2de2bddf49a18ee5d64e70852fa13c75cba4e25a33489c2a167f9f8d673a41f", checked := Try.checked }
namespace Rows
def none {H : Type} : Left H := { results := [], args := [] }

/-- 'bafflelaw06.OptsReads': WHATEVER THE INPUT: true; the input reads as it did. -/
def optsReadsSpec : ChangeSpec := { name := "optsReads", fn := fun _ => fun
  | [d] => { results := [.lit (.bool true)], args := [d] }
  | _ => none }
def optsReadsRow : OpenClaim := { program := "ytjfnnclbfaakkaa", sum := "e2de2bddf49a18ee5d64e70852fa13c75cba4e25a33489c2a167f9f8d673a41f", func := "baffle/bafflelaw06.OptsReads", spec := "optsReads", unfollowed := true, recurses := true, apart := false }
def OptsReadsSaid : Prop := optsReadsRow.holds Try.pinned (OpenSpec.ofChange optsReadsSpec)

/-- ITS FALSE NEIGHBOUR: 'it returns false'. Refute it at one input. -/
def optsReadsWrong : ChangeSpec := { name := "optsReads", fn := fun _ => fun
  | [d] => { results := [.lit (.bool false)], args := [d] }
  | _ => none }
def OptsReadsWrongFalsely : Prop := optsReadsRow.holds Try.pinned (OpenSpec.ofChange optsReadsWrong)

/-- 'bafflelaw06.OptsBack': WHATEVER THE INPUT: true; the input reads as it did. -/
def optsBackSpec : ChangeSpec := { name := "optsBack", fn := fun _ => fun
  | [d] => { results := [.lit (.bool true)], args := [d] }
  | _ => none }
def optsBackRow : OpenClaim := { program := "ytjfnnclbfaakkaa", sum := "e2de2bddf49a18ee5d64e70852fa13c75cba4e25a33489c2a167f9f8d673a41f", func := "baffle/bafflelaw06.OptsBack", spec := "optsBack", unfollowed := true, recurses := true, apart := false }
def OptsBackSaid : Prop := optsBackRow.holds Try.pinned (OpenSpec.ofChange optsBackSpec)

/-- ITS FALSE NEIGHBOUR: 'it returns false'. Refute it at one input. -/
def optsBackWrong : ChangeSpec := { name := "optsBack", fn := fun _ => fun
  | [d] => { results := [.lit (.bool false)], args := [d] }
  | _ => none }
def OptsBackWrongFalsely : Prop := optsBackRow.holds Try.pinned (OpenSpec.ofChange optsBackWrong)

/-- 'bafflelaw06.OptsAgain': WHATEVER THE INPUT: true; the input reads as it did. -/
def optsAgainSpec : ChangeSpec := { name := "optsAgain", fn := fun _ => fun
  | [d] => { results := [.lit (.bool true)], args := [d] }
  | _ => none }
def optsAgainRow : OpenClaim := { program := "ytjfnnclbfaakkaa", sum := "e2de2bddf49a18ee5d64e70852fa13c75cba4e25a33489c2a167f9f8d673a41f", func := "baffle/bafflelaw06.OptsAgain", spec := "optsAgain", unfollowed := true, recurses := true, apart := false }
def OptsAgainSaid : Prop := optsAgainRow.holds Try.pinned (OpenSpec.ofChange optsAgainSpec)

/-- ITS FALSE NEIGHBOUR: 'it returns false'. Refute it at one input. -/
def optsAgainWrong : ChangeSpec := { name := "optsAgain", fn := fun _ => fun
  | [d] => { results := [.lit (.bool false)], args := [d] }
  | _ => none }
def OptsAgainWrongFalsely : Prop := optsAgainRow.holds Try.pinned (OpenSpec.ofChange optsAgainWrong)

/-- 'bafflelaw06.OptsCut': WHATEVER THE INPUT: true; the input reads as it did. -/
def optsCutSpec : ChangeSpec := { name := "optsCut", fn := fun _ => fun
  | [d1, d2] => { results := [.lit (.bool true)], args := [d1, d2] }
  | _ => none }
def optsCutRow : OpenClaim := { program := "ytjfnnclbfaakkaa", sum := "e2de2bddf49a18ee5d64e70852fa13c75cba4e25a33489c2a167f9f8d673a41f", func := "baffle/bafflelaw06.OptsCut", spec := "optsCut", unfollowed := true, recurses := true, apart := false }
def OptsCutSaid : Prop := optsCutRow.holds Try.pinned (OpenSpec.ofChange optsCutSpec)

/-- ITS FALSE NEIGHBOUR: 'it returns false'. Refute it at one input. -/
def optsCutWrong : ChangeSpec := { name := "optsCut", fn := fun _ => fun
  | [d1, d2] => { results := [.lit (.bool false)], args := [d1, d2] }
  | _ => none }
def OptsCutWrongFalsely : Prop := optsCutRow.holds Try.pinned (OpenSpec.ofChange optsCutWrong)

/-- 'bafflelaw06.OptsTells': WHATEVER THE INPUT: true; the input reads as it did. -/
def optsTellsSpec : ChangeSpec := { name := "optsTells", fn := fun _ => fun
  | [d1, d2] => { results := [.lit (.bool true)], args := [d1, d2] }
  | _ => none }
def optsTellsRow : OpenClaim := { program := "ytjfnnclbfaakkaa", sum := "e2de2bddf49a18ee5d64e70852fa13c75cba4e25a33489c2a167f9f8d673a41f", func := "baffle/bafflelaw06.OptsTells", spec := "optsTells", unfollowed := true, recurses := true, apart := false }
def OptsTellsSaid : Prop := optsTellsRow.holds Try.pinned (OpenSpec.ofChange optsTellsSpec)

/-- ITS FALSE NEIGHBOUR: 'it returns false'. Refute it at one input. -/
def optsTellsWrong : ChangeSpec := { name := "optsTells", fn := fun _ => fun
  | [d1, d2] => { results := [.lit (.bool false)], args := [d1, d2] }
  | _ => none }
def OptsTellsWrongFalsely : Prop := optsTellsRow.holds Try.pinned (OpenSpec.ofChange optsTellsWrong)

/-- 'bafflelaw06.OptsRecords': WHATEVER THE INPUT: true; the input reads as it did. -/
def optsRecordsSpec : ChangeSpec := { name := "optsRecords", fn := fun _ => fun
  | [d1, d2, d3, d4] => { results := [.lit (.bool true)], args := [d1, d2, d3, d4] }
  | _ => none }
def optsRecordsRow : OpenClaim := { program := "ytjfnnclbfaakkaa", sum := "e2de2bddf49a18ee5d64e70852fa13c75cba4e25a33489c2a167f9f8d673a41f", func := "baffle/bafflelaw06.OptsRecords", spec := "optsRecords", unfollowed := true, recurses := true, apart := false }
def OptsRecordsSaid : Prop := optsRecordsRow.holds Try.pinned (OpenSpec.ofChange optsRecordsSpec)

/-- ITS FALSE NEIGHBOUR: 'it returns false'. Refute it at one input. -/
def optsRecordsWrong : ChangeSpec := { name := "optsRecords", fn := fun _ => fun
  | [d1, d2, d3, d4] => { results := [.lit (.bool false)], args := [d1, d2, d3, d4] }
  | _ => none }
def OptsRecordsWrongFalsely : Prop := optsRecordsRow.holds Try.pinned (OpenSpec.ofChange optsRecordsWrong)

/-- 'bafflelaw06.OptsWrong': WHATEVER THE INPUT: true; the input reads as it did. -/
def optsWrongSpec : ChangeSpec := { name := "optsWrong", fn := fun _ => fun
  | [d1, d2, d3] => { results := [.lit (.bool true)], args := [d1, d2, d3] }
  | _ => none }
def optsWrongRow : OpenClaim := { program := "ytjfnnclbfaakkaa", sum := "e2de2bddf49a18ee5d64e70852fa13c75cba4e25a33489c2a167f9f8d673a41f", func := "baffle/bafflelaw06.OptsWrong", spec := "optsWrong", unfollowed := true, recurses := true, apart := false }
def OptsWrongSaid : Prop := optsWrongRow.holds Try.pinned (OpenSpec.ofChange optsWrongSpec)

/-- ITS FALSE NEIGHBOUR: 'it returns false'. Refute it at one input. -/
def optsWrongWrong : ChangeSpec := { name := "optsWrong", fn := fun _ => fun
  | [d1, d2, d3] => { results := [.lit (.bool false)], args := [d1, d2, d3] }
  | _ => none }
def OptsWrongWrongFalsely : Prop := optsWrongRow.holds Try.pinned (OpenSpec.ofChange optsWrongWrong)

/-- 'bafflelaw06.OptsWrites': WHATEVER THE INPUT: true; the input reads as it did. -/
def optsWritesSpec : ChangeSpec := { name := "optsWrites", fn := fun _ => fun
  | [d1, d2] => { results := [.lit (.bool true)], args := [d1, d2] }
  | _ => none }
def optsWritesRow : OpenClaim := { program := "ytjfnnclbfaakkaa", sum := "e2de2bddf49a18ee5d64e70852fa13c75cba4e25a33489c2a167f9f8d673a41f", func := "baffle/bafflelaw06.OptsWrites", spec := "optsWrites", unfollowed := true, recurses := true, apart := false }
def OptsWritesSaid : Prop := optsWritesRow.holds Try.pinned (OpenSpec.ofChange optsWritesSpec)

/-- ITS FALSE NEIGHBOUR: 'it returns false'. Refute it at one input. -/
def optsWritesWrong : ChangeSpec := { name := "optsWrites", fn := fun _ => fun
  | [d1, d2] => { results := [.lit (.bool false)], args := [d1, d2] }
  | _ => none }
def OptsWritesWrongFalsely : Prop := optsWritesRow.holds Try.pinned (OpenSpec.ofChange optsWritesWrong)

/-- 'bafflelaw06.OptsFinds': WHATEVER THE INPUT: true; the input reads as it did. -/
def optsFindsSpec : ChangeSpec := { name := "optsFinds", fn := fun _ => fun
  | [d1, d2] => { results := [.lit (.bool true)], args := [d1, d2] }
  | _ => none }
def optsFindsRow : OpenClaim := { program := "ytjfnnclbfaakkaa", sum := "e2de2bddf49a18ee5d64e70852fa13c75cba4e25a33489c2a167f9f8d673a41f", func := "baffle/bafflelaw06.OptsFinds", spec := "optsFinds", unfollowed := true, recurses := true, apart := false }
def OptsFindsSaid : Prop := optsFindsRow.holds Try.pinned (OpenSpec.ofChange optsFindsSpec)

/-- ITS FALSE NEIGHBOUR: 'it returns false'. Refute it at one input. -/
def optsFindsWrong : ChangeSpec := { name := "optsFinds", fn := fun _ => fun
  | [d1, d2] => { results := [.lit (.bool false)], args := [d1, d2] }
  | _ => none }
def OptsFindsWrongFalsely : Prop := optsFindsRow.holds Try.pinned (OpenSpec.ofChange optsFindsWrong)

/-- 'bafflelaw06.OptsSmall': WHATEVER THE INPUT: true; the input reads as it did. -/
def optsSmallSpec : ChangeSpec := { name := "optsSmall", fn := fun _ => fun
  | [] => { results := [.lit (.bool true)], args := [] }
  | _ => none }
def optsSmallRow : OpenClaim := { program := "ytjfnnclbfaakkaa", sum := "e2de2bddf49a18ee5d64e70852fa13c75cba4e25a33489c2a167f9f8d673a41f", func := "baffle/bafflelaw06.OptsSmall", spec := "optsSmall", unfollowed := true, recurses := true, apart := false }
def OptsSmallSaid : Prop := optsSmallRow.holds Try.pinned (OpenSpec.ofChange optsSmallSpec)

/-- ITS FALSE NEIGHBOUR: 'it returns false'. Refute it at one input. -/
def optsSmallWrong : ChangeSpec := { name := "optsSmall", fn := fun _ => fun
  | [] => { results := [.lit (.bool false)], args := [] }
  | _ => none }
def OptsSmallWrongFalsely : Prop := optsSmallRow.holds Try.pinned (OpenSpec.ofChange optsSmallWrong)

/- THE SECOND FORM. 'bulk': how many values and letters a reading holds, each counted each time it is reached (what is shared counts as often as it is met; a slice's spare places count too). A statement '..UptoSaid' is the law's where the arguments, and the package variables that the reading takes, are together of bulk at most 1048576: NARROWER than '..Said'. Prove '..Said' where nothing that the law and all that it calls make is longer than what came in: it says more and counts as full. Else prove '..UptoSaid'. A law counts once. -/
mutual
def uptoBulk {H : Type} : DataW H → Nat
  | .lit (.string bytes) => bytes.length + 1
  | .lit _ => 1
  | .nil => 1
  | .ptr d => uptoBulk d + 1
  | .slice elems spare => uptoBulkAll elems + uptoBulkAll spare + 1
  | .agg parts => uptoBulkAll parts + 1
  | .iface _ d => uptoBulk d + 1
  | .map entries => uptoBulkEntries entries + 1
  | .held _ => 1
def uptoBulkAll {H : Type} : List (DataW H) → Nat
  | [] => 0
  | d :: r => uptoBulk d + uptoBulkAll r
def uptoBulkEntries {H : Type} : List (Lit × DataW H) → Nat
  | [] => 0
  | x :: r => uptoBulkEntry x + uptoBulkEntries r
def uptoBulkEntry {H : Type} : Lit × DataW H → Nat
  | (.string bytes, d) => bytes.length + uptoBulk d + 1
  | (_, d) => uptoBulk d + 1
 end
def uptoSmall : (H : Type) → List (DataW H) → Bool := fun _ ds => decide (uptoBulkAll ds ≤ 1048576)
def OpenSpec.upto (s : _root_.Go.ChangeSpec) : _root_.Go.OpenSpec := { _root_.Go.OpenSpec.ofChange s with cond := some uptoSmall }

/-- 'bafflelaw06.OptsReads', WHERE WHAT IT READS IS OF BULK AT MOST 1048576: true; the input reads as it did. -/
def optsReadsUptoRow : OpenClaim := { program := "ytjfnnclbfaakkaa", sum := "e2de2bddf49a18ee5d64e70852fa13c75cba4e25a33489c2a167f9f8d673a41f", func := "baffle/bafflelaw06.OptsReads", spec := "optsReads", unfollowed := true, recurses := true, apart := false, narrowed := true }
def OptsReadsUptoSaid : Prop := optsReadsUptoRow.holds Try.pinned (OpenSpec.upto optsReadsSpec)

/-- 'bafflelaw06.OptsBack', WHERE WHAT IT READS IS OF BULK AT MOST 1048576: true; the input reads as it did. -/
def optsBackUptoRow : OpenClaim := { program := "ytjfnnclbfaakkaa", sum := "e2de2bddf49a18ee5d64e70852fa13c75cba4e25a33489c2a167f9f8d673a41f", func := "baffle/bafflelaw06.OptsBack", spec := "optsBack", unfollowed := true, recurses := true, apart := false, narrowed := true }
def OptsBackUptoSaid : Prop := optsBackUptoRow.holds Try.pinned (OpenSpec.upto optsBackSpec)

/-- 'bafflelaw06.OptsAgain', WHERE WHAT IT READS IS OF BULK AT MOST 1048576: true; the input reads as it did. -/
def optsAgainUptoRow : OpenClaim := { program := "ytjfnnclbfaakkaa", sum := "e2de2bddf49a18ee5d64e70852fa13c75cba4e25a33489c2a167f9f8d673a41f", func := "baffle/bafflelaw06.OptsAgain", spec := "optsAgain", unfollowed := true, recurses := true, apart := false, narrowed := true }
def OptsAgainUptoSaid : Prop := optsAgainUptoRow.holds Try.pinned (OpenSpec.upto optsAgainSpec)

/-- 'bafflelaw06.OptsCut', WHERE WHAT IT READS IS OF BULK AT MOST 1048576: true; the input reads as it did. -/
def optsCutUptoRow : OpenClaim := { program := "ytjfnnclbfaakkaa", sum := "e2de2bddf49a18ee5d64e70852fa13c75cba4e25a33489c2a167f9f8d673a41f", func := "baffle/bafflelaw06.OptsCut", spec := "optsCut", unfollowed := true, recurses := true, apart := false, narrowed := true }
def OptsCutUptoSaid : Prop := optsCutUptoRow.holds Try.pinned (OpenSpec.upto optsCutSpec)

/-- 'bafflelaw06.OptsTells', WHERE WHAT IT READS IS OF BULK AT MOST 1048576: true; the input reads as it did. -/
def optsTellsUptoRow : OpenClaim := { program := "ytjfnnclbfaakkaa", sum := "e2de2bddf49a18ee5d64e70852fa13c75cba4e25a33489c2a167f9f8d673a41f", func := "baffle/bafflelaw06.OptsTells", spec := "optsTells", unfollowed := true, recurses := true, apart := false, narrowed := true }
def OptsTellsUptoSaid : Prop := optsTellsUptoRow.holds Try.pinned (OpenSpec.upto optsTellsSpec)

/-- 'bafflelaw06.OptsRecords', WHERE WHAT IT READS IS OF BULK AT MOST 1048576: true; the input reads as it did. -/
def optsRecordsUptoRow : OpenClaim := { program := "ytjfnnclbfaakkaa", sum := "e2de2bddf49a18ee5d64e70852fa13c75cba4e25a33489c2a167f9f8d673a41f", func := "baffle/bafflelaw06.OptsRecords", spec := "optsRecords", unfollowed := true, recurses := true, apart := false, narrowed := true }
def OptsRecordsUptoSaid : Prop := optsRecordsUptoRow.holds Try.pinned (OpenSpec.upto optsRecordsSpec)

/-- 'bafflelaw06.OptsWrong', WHERE WHAT IT READS IS OF BULK AT MOST 1048576: true; the input reads as it did. -/
def optsWrongUptoRow : OpenClaim := { program := "ytjfnnclbfaakkaa", sum := "e2de2bddf49a18ee5d64e70852fa13c75cba4e25a33489c2a167f9f8d673a41f", func := "baffle/bafflelaw06.OptsWrong", spec := "optsWrong", unfollowed := true, recurses := true, apart := false, narrowed := true }
def OptsWrongUptoSaid : Prop := optsWrongUptoRow.holds Try.pinned (OpenSpec.upto optsWrongSpec)

/-- 'bafflelaw06.OptsWrites', WHERE WHAT IT READS IS OF BULK AT MOST 1048576: true; the input reads as it did. -/
def optsWritesUptoRow : OpenClaim := { program := "ytjfnnclbfaakkaa", sum := "e2de2bddf49a18ee5d64e70852fa13c75cba4e25a33489c2a167f9f8d673a41f", func := "baffle/bafflelaw06.OptsWrites", spec := "optsWrites", unfollowed := true, recurses := true, apart := false, narrowed := true }
def OptsWritesUptoSaid : Prop := optsWritesUptoRow.holds Try.pinned (OpenSpec.upto optsWritesSpec)

/-- 'bafflelaw06.OptsFinds', WHERE WHAT IT READS IS OF BULK AT MOST 1048576: true; the input reads as it did. -/
def optsFindsUptoRow : OpenClaim := { program := "ytjfnnclbfaakkaa", sum := "e2de2bddf49a18ee5d64e70852fa13c75cba4e25a33489c2a167f9f8d673a41f", func := "baffle/bafflelaw06.OptsFinds", spec := "optsFinds", unfollowed := true, recurses := true, apart := false, narrowed := true }
def OptsFindsUptoSaid : Prop := optsFindsUptoRow.holds Try.pinned (OpenSpec.upto optsFindsSpec)

/-- 'bafflelaw06.OptsSmall', WHERE WHAT IT READS IS OF BULK AT MOST 1048576: true; the input reads as it did. -/
def optsSmallUptoRow : OpenClaim := { program := "ytjfnnclbfaakkaa", sum := "e2de2bddf49a18ee5d64e70852fa13c75cba4e25a33489c2a167f9f8d673a41f", func := "baffle/bafflelaw06.OptsSmall", spec := "optsSmall", unfollowed := true, recurses := true, apart := false, narrowed := true }
def OptsSmallUptoSaid : Prop := optsSmallUptoRow.holds Try.pinned (OpenSpec.upto optsSmallSpec)

end Rows
end Go.Proofs.Ytjfnnclbfaakkaa
