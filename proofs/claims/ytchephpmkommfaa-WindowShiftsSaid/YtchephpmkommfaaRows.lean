/-
  No cell of these rows narrows 'for every input' (looked for: loops, veiled, ifaces, maps, wideKeys, modest, calm, conditions, laid).
  DERIVED. THE GIVEN ROWS OF THIS SEAT. 8 by the template 'for every input the law returns true; each argument reads behind the call as it read before'; 0 by the template 'total and deterministic' (their statements: YtchephpmkommfaaTotals.lean).
  GIVEN WITH THE SEED: the statements are not yours to turn. If you find one false, say at which input.
  Laid BY PROGRAM, IN A SANDBOX (cutbox-rows.mjs): the forced cells as the released guide's own fill.sh prints them over the translation 50d6e6c22943dcca… (all of the seat's roots in one cut). By AI agents, Wed Nov 11 2026. No macro, syntax, notation, axiom, sorry.
-/
import Derived.Test.YtchephpmkommfaaChecked
import GoSem.Claim
import GoSem.ClaimJoined
import GoSem.ClaimMapViews
import Derived.JoinedTies
import Derived.KernelRfl
namespace Go.Proofs.Ytchephpmkommfaa
/- THE CELL 'sum', in the pinned program and in every row, IS THE sha256 OF THE DUMP (.gsa) THAT YtchephpmkommfaaProg.lean LOADS. Nothing in Lean hashes anything: it is a label: what it is worth is what the hold of that sum in a sandbox is worth. -/
noncomputable def Try.pinned : Pinned := { name := "ytchephpmkommfaa", sum := "50d6e6c22943dcca46cb26e94245e54a3a6b9c4c494ee7f43655d5f12d3e4fb1", checked := Try.checked }
namespace Rows
def none {H : Type} : Left H := { results := [], args := [] }

/-- 'bafflelaw21.WindowAfter': WHATEVER THE INPUT: true; the input reads as it did. -/
def windowAfterSpec : ChangeSpec := { name := "windowAfter", fn := fun _ => fun
  | [d1, d2, d3] => { results := [.lit (.bool true)], args := [d1, d2, d3] }
  | _ => none }
def windowAfterRow : OpenClaim := { program := "ytchephpmkommfaa", sum := "50d6e6c22943dcca46cb26e94245e54a3a6b9c4c494ee7f43655d5f12d3e4fb1", func := "baffle/bafflelaw21.WindowAfter", spec := "windowAfter", unfollowed := true, recurses := true, apart := false }
def WindowAfterSaid : Prop := windowAfterRow.holds Try.pinned (OpenSpec.ofChange windowAfterSpec)

/-- ITS FALSE NEIGHBOUR: 'it returns false'. Refute it at one input. -/
def windowAfterWrong : ChangeSpec := { name := "windowAfter", fn := fun _ => fun
  | [d1, d2, d3] => { results := [.lit (.bool false)], args := [d1, d2, d3] }
  | _ => none }
def WindowAfterWrongFalsely : Prop := windowAfterRow.holds Try.pinned (OpenSpec.ofChange windowAfterWrong)

/-- 'bafflelaw21.WindowTells': WHATEVER THE INPUT: true; the input reads as it did. -/
def windowTellsSpec : ChangeSpec := { name := "windowTells", fn := fun _ => fun
  | [d1, d2, d3, d4, d5] => { results := [.lit (.bool true)], args := [d1, d2, d3, d4, d5] }
  | _ => none }
def windowTellsRow : OpenClaim := { program := "ytchephpmkommfaa", sum := "50d6e6c22943dcca46cb26e94245e54a3a6b9c4c494ee7f43655d5f12d3e4fb1", func := "baffle/bafflelaw21.WindowTells", spec := "windowTells", unfollowed := true, recurses := true, apart := false }
def WindowTellsSaid : Prop := windowTellsRow.holds Try.pinned (OpenSpec.ofChange windowTellsSpec)

/-- ITS FALSE NEIGHBOUR: 'it returns false'. Refute it at one input. -/
def windowTellsWrong : ChangeSpec := { name := "windowTells", fn := fun _ => fun
  | [d1, d2, d3, d4, d5] => { results := [.lit (.bool false)], args := [d1, d2, d3, d4, d5] }
  | _ => none }
def WindowTellsWrongFalsely : Prop := windowTellsRow.holds Try.pinned (OpenSpec.ofChange windowTellsWrong)

/-- 'bafflelaw21.WindowRuns': WHATEVER THE INPUT: true; the input reads as it did. -/
def windowRunsSpec : ChangeSpec := { name := "windowRuns", fn := fun _ => fun
  | [d] => { results := [.lit (.bool true)], args := [d] }
  | _ => none }
def windowRunsRow : OpenClaim := { program := "ytchephpmkommfaa", sum := "50d6e6c22943dcca46cb26e94245e54a3a6b9c4c494ee7f43655d5f12d3e4fb1", func := "baffle/bafflelaw21.WindowRuns", spec := "windowRuns", unfollowed := true, recurses := true, apart := false }
def WindowRunsSaid : Prop := windowRunsRow.holds Try.pinned (OpenSpec.ofChange windowRunsSpec)

/-- ITS FALSE NEIGHBOUR: 'it returns false'. Refute it at one input. -/
def windowRunsWrong : ChangeSpec := { name := "windowRuns", fn := fun _ => fun
  | [d] => { results := [.lit (.bool false)], args := [d] }
  | _ => none }
def WindowRunsWrongFalsely : Prop := windowRunsRow.holds Try.pinned (OpenSpec.ofChange windowRunsWrong)

/-- 'bafflelaw21.WindowSmall': WHATEVER THE INPUT: true; the input reads as it did. -/
def windowSmallSpec : ChangeSpec := { name := "windowSmall", fn := fun _ => fun
  | [] => { results := [.lit (.bool true)], args := [] }
  | _ => none }
def windowSmallRow : OpenClaim := { program := "ytchephpmkommfaa", sum := "50d6e6c22943dcca46cb26e94245e54a3a6b9c4c494ee7f43655d5f12d3e4fb1", func := "baffle/bafflelaw21.WindowSmall", spec := "windowSmall", unfollowed := true, recurses := true, apart := false }
def WindowSmallSaid : Prop := windowSmallRow.holds Try.pinned (OpenSpec.ofChange windowSmallSpec)

/-- ITS FALSE NEIGHBOUR: 'it returns false'. Refute it at one input. -/
def windowSmallWrong : ChangeSpec := { name := "windowSmall", fn := fun _ => fun
  | [] => { results := [.lit (.bool false)], args := [] }
  | _ => none }
def WindowSmallWrongFalsely : Prop := windowSmallRow.holds Try.pinned (OpenSpec.ofChange windowSmallWrong)

/-- 'bafflelaw21.WindowShifts': WHATEVER THE INPUT: true; the input reads as it did. -/
def windowShiftsSpec : ChangeSpec := { name := "windowShifts", fn := fun _ => fun
  | [d1, d2, d3, d4] => { results := [.lit (.bool true)], args := [d1, d2, d3, d4] }
  | _ => none }
def windowShiftsRow : OpenClaim := { program := "ytchephpmkommfaa", sum := "50d6e6c22943dcca46cb26e94245e54a3a6b9c4c494ee7f43655d5f12d3e4fb1", func := "baffle/bafflelaw21.WindowShifts", spec := "windowShifts", unfollowed := true, recurses := true, apart := false }
def WindowShiftsSaid : Prop := windowShiftsRow.holds Try.pinned (OpenSpec.ofChange windowShiftsSpec)

/-- ITS FALSE NEIGHBOUR: 'it returns false'. Refute it at one input. -/
def windowShiftsWrong : ChangeSpec := { name := "windowShifts", fn := fun _ => fun
  | [d1, d2, d3, d4] => { results := [.lit (.bool false)], args := [d1, d2, d3, d4] }
  | _ => none }
def WindowShiftsWrongFalsely : Prop := windowShiftsRow.holds Try.pinned (OpenSpec.ofChange windowShiftsWrong)

/-- 'bafflelaw21.WindowWide': WHATEVER THE INPUT: true; the input reads as it did. -/
def windowWideSpec : ChangeSpec := { name := "windowWide", fn := fun _ => fun
  | [d1, d2, d3] => { results := [.lit (.bool true)], args := [d1, d2, d3] }
  | _ => none }
def windowWideRow : OpenClaim := { program := "ytchephpmkommfaa", sum := "50d6e6c22943dcca46cb26e94245e54a3a6b9c4c494ee7f43655d5f12d3e4fb1", func := "baffle/bafflelaw21.WindowWide", spec := "windowWide", unfollowed := true, recurses := true, apart := false }
def WindowWideSaid : Prop := windowWideRow.holds Try.pinned (OpenSpec.ofChange windowWideSpec)

/-- ITS FALSE NEIGHBOUR: 'it returns false'. Refute it at one input. -/
def windowWideWrong : ChangeSpec := { name := "windowWide", fn := fun _ => fun
  | [d1, d2, d3] => { results := [.lit (.bool false)], args := [d1, d2, d3] }
  | _ => none }
def WindowWideWrongFalsely : Prop := windowWideRow.holds Try.pinned (OpenSpec.ofChange windowWideWrong)

/-- 'bafflelaw21.WindowHonest': WHATEVER THE INPUT: true; the input reads as it did. -/
def windowHonestSpec : ChangeSpec := { name := "windowHonest", fn := fun _ => fun
  | [d1, d2] => { results := [.lit (.bool true)], args := [d1, d2] }
  | _ => none }
def windowHonestRow : OpenClaim := { program := "ytchephpmkommfaa", sum := "50d6e6c22943dcca46cb26e94245e54a3a6b9c4c494ee7f43655d5f12d3e4fb1", func := "baffle/bafflelaw21.WindowHonest", spec := "windowHonest", unfollowed := true, recurses := true, apart := false }
def WindowHonestSaid : Prop := windowHonestRow.holds Try.pinned (OpenSpec.ofChange windowHonestSpec)

/-- ITS FALSE NEIGHBOUR: 'it returns false'. Refute it at one input. -/
def windowHonestWrong : ChangeSpec := { name := "windowHonest", fn := fun _ => fun
  | [d1, d2] => { results := [.lit (.bool false)], args := [d1, d2] }
  | _ => none }
def WindowHonestWrongFalsely : Prop := windowHonestRow.holds Try.pinned (OpenSpec.ofChange windowHonestWrong)

/-- 'bafflelaw21.WindowOne': WHATEVER THE INPUT: true; the input reads as it did. -/
def windowOneSpec : ChangeSpec := { name := "windowOne", fn := fun _ => fun
  | [d1, d2, d3] => { results := [.lit (.bool true)], args := [d1, d2, d3] }
  | _ => none }
def windowOneRow : OpenClaim := { program := "ytchephpmkommfaa", sum := "50d6e6c22943dcca46cb26e94245e54a3a6b9c4c494ee7f43655d5f12d3e4fb1", func := "baffle/bafflelaw21.WindowOne", spec := "windowOne", unfollowed := true, recurses := true, apart := false }
def WindowOneSaid : Prop := windowOneRow.holds Try.pinned (OpenSpec.ofChange windowOneSpec)

/-- ITS FALSE NEIGHBOUR: 'it returns false'. Refute it at one input. -/
def windowOneWrong : ChangeSpec := { name := "windowOne", fn := fun _ => fun
  | [d1, d2, d3] => { results := [.lit (.bool false)], args := [d1, d2, d3] }
  | _ => none }
def WindowOneWrongFalsely : Prop := windowOneRow.holds Try.pinned (OpenSpec.ofChange windowOneWrong)

/- THE SECOND FORM. 'bulk': how many values and letters a reading holds, each counted each time it is reached (what is shared counts as often as it is met; a slice's spare places count too). A statement '..UptoSaid' is the law's where the arguments, and the package variables that the reading takes, are together of bulk at most 1048576: NARROWER than '..Said'. Prove '..Said' where nothing that the law and all that it calls make is longer than what came in: it says more and counts as full. Else prove '..UptoSaid'. A law counts once. -/
mutual
def uptoBulk {H : Type} : DataW H → Nat
  | .lit (.string bytes) => bytes.length + 1
  | .lit _ => 1
  | .nil => 1
  | .ptr d => uptoBulk d + 1
  | .slice elems spare => uptoBulkAll elems + uptoBulkAll spare + 1
  | .agg parts => uptoBulkAll parts + 1
  | .iface _ d => uptoBulk d + 1
  | .map entries => uptoBulkEntries entries + 1
  | .held _ => 1
def uptoBulkAll {H : Type} : List (DataW H) → Nat
  | [] => 0
  | d :: r => uptoBulk d + uptoBulkAll r
def uptoBulkEntries {H : Type} : List (Lit × DataW H) → Nat
  | [] => 0
  | x :: r => uptoBulkEntry x + uptoBulkEntries r
def uptoBulkEntry {H : Type} : Lit × DataW H → Nat
  | (.string bytes, d) => bytes.length + uptoBulk d + 1
  | (_, d) => uptoBulk d + 1
 end
def uptoSmall : (H : Type) → List (DataW H) → Bool := fun _ ds => decide (uptoBulkAll ds ≤ 1048576)
def OpenSpec.upto (s : _root_.Go.ChangeSpec) : _root_.Go.OpenSpec := { _root_.Go.OpenSpec.ofChange s with cond := some uptoSmall }

/-- 'bafflelaw21.WindowAfter', WHERE WHAT IT READS IS OF BULK AT MOST 1048576: true; the input reads as it did. -/
def windowAfterUptoRow : OpenClaim := { program := "ytchephpmkommfaa", sum := "50d6e6c22943dcca46cb26e94245e54a3a6b9c4c494ee7f43655d5f12d3e4fb1", func := "baffle/bafflelaw21.WindowAfter", spec := "windowAfter", unfollowed := true, recurses := true, apart := false, narrowed := true }
def WindowAfterUptoSaid : Prop := windowAfterUptoRow.holds Try.pinned (OpenSpec.upto windowAfterSpec)

/-- 'bafflelaw21.WindowTells', WHERE WHAT IT READS IS OF BULK AT MOST 1048576: true; the input reads as it did. -/
def windowTellsUptoRow : OpenClaim := { program := "ytchephpmkommfaa", sum := "50d6e6c22943dcca46cb26e94245e54a3a6b9c4c494ee7f43655d5f12d3e4fb1", func := "baffle/bafflelaw21.WindowTells", spec := "windowTells", unfollowed := true, recurses := true, apart := false, narrowed := true }
def WindowTellsUptoSaid : Prop := windowTellsUptoRow.holds Try.pinned (OpenSpec.upto windowTellsSpec)

/-- 'bafflelaw21.WindowRuns', WHERE WHAT IT READS IS OF BULK AT MOST 1048576: true; the input reads as it did. -/
def windowRunsUptoRow : OpenClaim := { program := "ytchephpmkommfaa", sum := "50d6e6c22943dcca46cb26e94245e54a3a6b9c4c494ee7f43655d5f12d3e4fb1", func := "baffle/bafflelaw21.WindowRuns", spec := "windowRuns", unfollowed := true, recurses := true, apart := false, narrowed := true }
def WindowRunsUptoSaid : Prop := windowRunsUptoRow.holds Try.pinned (OpenSpec.upto windowRunsSpec)

/-- 'bafflelaw21.WindowSmall', WHERE WHAT IT READS IS OF BULK AT MOST 1048576: true; the input reads as it did. -/
def windowSmallUptoRow : OpenClaim := { program := "ytchephpmkommfaa", sum := "50d6e6c22943dcca46cb26e94245e54a3a6b9c4c494ee7f43655d5f12d3e4fb1", func := "baffle/bafflelaw21.WindowSmall", spec := "windowSmall", unfollowed := true, recurses := true, apart := false, narrowed := true }
def WindowSmallUptoSaid : Prop := windowSmallUptoRow.holds Try.pinned (OpenSpec.upto windowSmallSpec)

/-- 'bafflelaw21.WindowShifts', WHERE WHAT IT READS IS OF BULK AT MOST 1048576: true; the input reads as it did. -/
def windowShiftsUptoRow : OpenClaim := { program := "ytchephpmkommfaa", sum := "50d6e6c22943dcca46cb26e94245e54a3a6b9c4c494ee7f43655d5f12d3e4fb1", func := "baffle/bafflelaw21.WindowShifts", spec := "windowShifts", unfollowed := true, recurses := true, apart := false, narrowed := true }
def WindowShiftsUptoSaid : Prop := windowShiftsUptoRow.holds Try.pinned (OpenSpec.upto windowShiftsSpec)

/-- 'bafflelaw21.WindowWide', WHERE WHAT IT READS IS OF BULK AT MOST 1048576: true; the input reads as it did. -/
def windowWideUptoRow : OpenClaim := { program := "ytchephpmkommfaa", sum := "50d6e6c22943dcca46cb26e94245e54a3a6b9c4c494ee7f43655d5f12d3e4fb1", func := "baffle/bafflelaw21.WindowWide", spec := "windowWide", unfollowed := true, recurses := true, apart := false, narrowed := true }
def WindowWideUptoSaid : Prop := windowWideUptoRow.holds Try.pinned (OpenSpec.upto windowWideSpec)

/-- 'bafflelaw21.WindowHonest', WHERE WHAT IT READS IS OF BULK AT MOST 1048576: true; the input reads as it did. -/
def windowHonestUptoRow : OpenClaim := { program := "ytchephpmkommfaa", sum := "50d6e6c22943dcca46cb26e94245e54a3a6b9c4c494ee7f43655d5f12d3e4fb1", func := "baffle/bafflelaw21.WindowHonest", spec := "windowHonest", unfollowed := true, recurses := true, apart := false, narrowed := true }
def WindowHonestUptoSaid : Prop := windowHonestUptoRow.holds Try.pinned (OpenSpec.upto windowHonestSpec)

/-- 'bafflelaw21.WindowOne', WHERE WHAT IT READS IS OF BULK AT MOST 1048576: true; the input reads as it did. -/
def windowOneUptoRow : OpenClaim := { program := "ytchephpmkommfaa", sum := "50d6e6c22943dcca46cb26e94245e54a3a6b9c4c494ee7f43655d5f12d3e4fb1", func := "baffle/bafflelaw21.WindowOne", spec := "windowOne", unfollowed := true, recurses := true, apart := false, narrowed := true }
def WindowOneUptoSaid : Prop := windowOneUptoRow.holds Try.pinned (OpenSpec.upto windowOneSpec)

end Rows
end Go.Proofs.Ytchephpmkommfaa
