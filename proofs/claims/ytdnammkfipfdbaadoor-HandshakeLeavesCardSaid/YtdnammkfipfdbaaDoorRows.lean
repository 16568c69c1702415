/-
  NARROWER THAN 'FOR EVERY INPUT', by the rows' own cells (each row's printed sentence says how): HandshakeRuns: laid · HandshakeTwice: laid · HandshakeOrder: laid · HandshakeWrong: laid · HandshakeNames: laid · HandshakeTells: laid · HandshakeLeaves: laid · HandshakeSmall: laid.
  DERIVED. THE GIVEN ROWS OF THIS SEAT. 8 by the template 'for every input the law returns true; each argument reads behind the call as it read before'; 0 by the template 'total and deterministic' (their statements: YtdnammkfipfdbaaDoorTotals.lean).
  GIVEN WITH THE SEED: the statements are not yours to turn. If you find one false, say at which input.
  Laid BY PROGRAM, IN A SANDBOX (cutbox-rows.mjs): the forced cells as the released guide's own fill.sh prints them over the translation 48e0e48821c9dc30… (all of the seat's roots in one cut). By AI agents, Wed Nov 11 2026. No macro, syntax, notation, axiom, sorry.
-/
import Derived.Test.YtdnammkfipfdbaaDoorChecked
import GoSem.Claim
import GoSem.ClaimJoined
import GoSem.ClaimMapViews
import Derived.JoinedTies
import Derived.KernelRfl
namespace Go.Proofs.YtdnammkfipfdbaaDoor
/- THE CELL 'sum', in the pinned program and in every row, IS THE sha256 OF THE DUMP (.gsa) THAT YtdnammkfipfdbaaDoorProg.lean LOADS. Nothing in Lean hashes anything: it is a label: what it is worth is what the hold of that sum in a sandbox is worth. -/
noncomputable def Tryd.pinned : Pinned := { name := "ytdnammkfipfdbaadoor", sum := "48e0e48821c9dc306d4d5a49d3cbaf8ea6e6ee0b81d4c6b026525183769ec722", checked := Tryd.checked }
namespace Rows
def none {H : Type} : Left H := { results := [], args := [] }

/- WHAT THE LISTED PACKAGE-LEVEL VARIABLES READ AS WHEN THE CALL BEGINS. Each datum BY PROGRAM (the guide's laid-datum.mjs) off the statement by which the dump's own 'gosem.cut.vars' lays the variable. In a bare row this is a premise. The card (YtdnammkfipfdbaaDoorCards.lean) ties it to the program's text. -/
def laid_baffle_handshake_table {H : Type} : DataW H := .agg [.agg [.agg [.lit (.int .u8 0), .lit (.int .u8 0)], .agg [.lit (.int .u8 0), .lit (.int .u8 0)], .agg [.lit (.int .u8 0), .lit (.int .u8 0)], .agg [.lit (.int .u8 0), .lit (.int .u8 0)], .agg [.lit (.int .u8 0), .lit (.int .u8 0)], .agg [.lit (.int .u8 0), .lit (.int .u8 0)]], .agg [.agg [.lit (.int .u8 0), .lit (.int .u8 0)], .agg [.lit (.int .u8 1), .lit (.int .u8 0)], .agg [.lit (.int .u8 0), .lit (.int .u8 2)], .agg [.lit (.int .u8 0), .lit (.int .u8 0)], .agg [.lit (.int .u8 0), .lit (.int .u8 0)], .agg [.lit (.int .u8 8), .lit (.int .u8 8)]], .agg [.agg [.lit (.int .u8 0), .lit (.int .u8 0)], .agg [.lit (.int .u8 2), .lit (.int .u8 0)], .agg [.lit (.int .u8 0), .lit (.int .u8 2)], .agg [.lit (.int .u8 3), .lit (.int .u8 0)], .agg [.lit (.int .u8 4), .lit (.int .u8 0)], .agg [.lit (.int .u8 8), .lit (.int .u8 8)]], .agg [.agg [.lit (.int .u8 0), .lit (.int .u8 0)], .agg [.lit (.int .u8 0), .lit (.int .u8 0)], .agg [.lit (.int .u8 0), .lit (.int .u8 3)], .agg [.lit (.int .u8 3), .lit (.int .u8 3)], .agg [.lit (.int .u8 4), .lit (.int .u8 5)], .agg [.lit (.int .u8 8), .lit (.int .u8 8)]], .agg [.agg [.lit (.int .u8 0), .lit (.int .u8 0)], .agg [.lit (.int .u8 0), .lit (.int .u8 0)], .agg [.lit (.int .u8 0), .lit (.int .u8 0)], .agg [.lit (.int .u8 4), .lit (.int .u8 4)], .agg [.lit (.int .u8 4), .lit (.int .u8 6)], .agg [.lit (.int .u8 8), .lit (.int .u8 8)]], .agg [.agg [.lit (.int .u8 0), .lit (.int .u8 0)], .agg [.lit (.int .u8 0), .lit (.int .u8 0)], .agg [.lit (.int .u8 0), .lit (.int .u8 0)], .agg [.lit (.int .u8 5), .lit (.int .u8 5)], .agg [.lit (.int .u8 6), .lit (.int .u8 5)], .agg [.lit (.int .u8 8), .lit (.int .u8 8)]], .agg [.agg [.lit (.int .u8 0), .lit (.int .u8 0)], .agg [.lit (.int .u8 0), .lit (.int .u8 0)], .agg [.lit (.int .u8 0), .lit (.int .u8 0)], .agg [.lit (.int .u8 7), .lit (.int .u8 7)], .agg [.lit (.int .u8 6), .lit (.int .u8 6)], .agg [.lit (.int .u8 8), .lit (.int .u8 8)]], .agg [.agg [.lit (.int .u8 0), .lit (.int .u8 0)], .agg [.lit (.int .u8 0), .lit (.int .u8 0)], .agg [.lit (.int .u8 0), .lit (.int .u8 0)], .agg [.lit (.int .u8 7), .lit (.int .u8 7)], .agg [.lit (.int .u8 7), .lit (.int .u8 7)], .agg [.lit (.int .u8 8), .lit (.int .u8 8)]], .agg [.agg [.lit (.int .u8 0), .lit (.int .u8 0)], .agg [.lit (.int .u8 0), .lit (.int .u8 0)], .agg [.lit (.int .u8 0), .lit (.int .u8 0)], .agg [.lit (.int .u8 0), .lit (.int .u8 0)], .agg [.lit (.int .u8 0), .lit (.int .u8 0)], .agg [.lit (.int .u8 8), .lit (.int .u8 8)]]]
def laid_baffle_handshake_names {H : Type} : DataW H := .agg [.lit (.string []), .lit (.string [115, 101, 110, 116]), .lit (.string [98, 111, 116, 104]), .lit (.string [111, 112, 101, 110]), .lit (.string [102, 105, 110, 45, 102, 105, 114, 115, 116]), .lit (.string [102, 105, 110, 45, 111, 116, 104, 101, 114]), .lit (.string [102, 105, 110, 45, 98, 111, 116, 104]), .lit (.string [119, 97, 105, 116]), .lit (.string [114, 101, 115, 101, 116])]

/-- 'bafflelaw20.HandshakeRuns': WHATEVER THE INPUT: true; the input reads as it did. -/
def handshakeRunsSpec : ChangeSpec := { name := "handshakeRuns", fn := fun _ => fun
  | [d] => { results := [.lit (.bool true)], args := [d] }
  | _ => none }
def handshakeRunsRow : OpenClaim := { program := "ytdnammkfipfdbaadoor", sum := "48e0e48821c9dc306d4d5a49d3cbaf8ea6e6ee0b81d4c6b026525183769ec722", func := "baffle/bafflelaw20.HandshakeRuns", spec := "handshakeRuns", named := ["baffle/handshake.table", "baffle/handshake.names"], apart := false, laid := [("baffle/handshake.table", laid_baffle_handshake_table), ("baffle/handshake.names", laid_baffle_handshake_names)] }
def HandshakeRunsSaid : Prop := handshakeRunsRow.holds Tryd.pinned (OpenSpec.ofChange handshakeRunsSpec)

/-- ITS FALSE NEIGHBOUR: 'it returns false'. Refute it at one input. -/
def handshakeRunsWrong : ChangeSpec := { name := "handshakeRuns", fn := fun _ => fun
  | [d] => { results := [.lit (.bool false)], args := [d] }
  | _ => none }
def HandshakeRunsWrongFalsely : Prop := handshakeRunsRow.holds Tryd.pinned (OpenSpec.ofChange handshakeRunsWrong)

/-- 'bafflelaw20.HandshakeTwice': WHATEVER THE INPUT: true; the input reads as it did. -/
def handshakeTwiceSpec : ChangeSpec := { name := "handshakeTwice", fn := fun _ => fun
  | [d1, d2, d3] => { results := [.lit (.bool true)], args := [d1, d2, d3] }
  | _ => none }
def handshakeTwiceRow : OpenClaim := { program := "ytdnammkfipfdbaadoor", sum := "48e0e48821c9dc306d4d5a49d3cbaf8ea6e6ee0b81d4c6b026525183769ec722", func := "baffle/bafflelaw20.HandshakeTwice", spec := "handshakeTwice", named := ["baffle/handshake.table", "baffle/handshake.names"], apart := false, laid := [("baffle/handshake.table", laid_baffle_handshake_table), ("baffle/handshake.names", laid_baffle_handshake_names)] }
def HandshakeTwiceSaid : Prop := handshakeTwiceRow.holds Tryd.pinned (OpenSpec.ofChange handshakeTwiceSpec)

/-- ITS FALSE NEIGHBOUR: 'it returns false'. Refute it at one input. -/
def handshakeTwiceWrong : ChangeSpec := { name := "handshakeTwice", fn := fun _ => fun
  | [d1, d2, d3] => { results := [.lit (.bool false)], args := [d1, d2, d3] }
  | _ => none }
def HandshakeTwiceWrongFalsely : Prop := handshakeTwiceRow.holds Tryd.pinned (OpenSpec.ofChange handshakeTwiceWrong)

/-- 'bafflelaw20.HandshakeOrder': WHATEVER THE INPUT: true; the input reads as it did. -/
def handshakeOrderSpec : ChangeSpec := { name := "handshakeOrder", fn := fun _ => fun
  | [d] => { results := [.lit (.bool true)], args := [d] }
  | _ => none }
def handshakeOrderRow : OpenClaim := { program := "ytdnammkfipfdbaadoor", sum := "48e0e48821c9dc306d4d5a49d3cbaf8ea6e6ee0b81d4c6b026525183769ec722", func := "baffle/bafflelaw20.HandshakeOrder", spec := "handshakeOrder", named := ["baffle/handshake.table", "baffle/handshake.names"], apart := false, laid := [("baffle/handshake.table", laid_baffle_handshake_table), ("baffle/handshake.names", laid_baffle_handshake_names)] }
def HandshakeOrderSaid : Prop := handshakeOrderRow.holds Tryd.pinned (OpenSpec.ofChange handshakeOrderSpec)

/-- ITS FALSE NEIGHBOUR: 'it returns false'. Refute it at one input. -/
def handshakeOrderWrong : ChangeSpec := { name := "handshakeOrder", fn := fun _ => fun
  | [d] => { results := [.lit (.bool false)], args := [d] }
  | _ => none }
def HandshakeOrderWrongFalsely : Prop := handshakeOrderRow.holds Tryd.pinned (OpenSpec.ofChange handshakeOrderWrong)

/-- 'bafflelaw20.HandshakeWrong': WHATEVER THE INPUT: true; the input reads as it did. -/
def handshakeWrongSpec : ChangeSpec := { name := "handshakeWrong", fn := fun _ => fun
  | [d1, d2, d3, d4] => { results := [.lit (.bool true)], args := [d1, d2, d3, d4] }
  | _ => none }
def handshakeWrongRow : OpenClaim := { program := "ytdnammkfipfdbaadoor", sum := "48e0e48821c9dc306d4d5a49d3cbaf8ea6e6ee0b81d4c6b026525183769ec722", func := "baffle/bafflelaw20.HandshakeWrong", spec := "handshakeWrong", named := ["baffle/handshake.table", "baffle/handshake.names"], apart := false, laid := [("baffle/handshake.table", laid_baffle_handshake_table), ("baffle/handshake.names", laid_baffle_handshake_names)] }
def HandshakeWrongSaid : Prop := handshakeWrongRow.holds Tryd.pinned (OpenSpec.ofChange handshakeWrongSpec)

/-- ITS FALSE NEIGHBOUR: 'it returns false'. Refute it at one input. -/
def handshakeWrongWrong : ChangeSpec := { name := "handshakeWrong", fn := fun _ => fun
  | [d1, d2, d3, d4] => { results := [.lit (.bool false)], args := [d1, d2, d3, d4] }
  | _ => none }
def HandshakeWrongWrongFalsely : Prop := handshakeWrongRow.holds Tryd.pinned (OpenSpec.ofChange handshakeWrongWrong)

/-- 'bafflelaw20.HandshakeNames': WHATEVER THE INPUT: true; the input reads as it did. -/
def handshakeNamesSpec : ChangeSpec := { name := "handshakeNames", fn := fun _ => fun
  | [d1, d2] => { results := [.lit (.bool true)], args := [d1, d2] }
  | _ => none }
def handshakeNamesRow : OpenClaim := { program := "ytdnammkfipfdbaadoor", sum := "48e0e48821c9dc306d4d5a49d3cbaf8ea6e6ee0b81d4c6b026525183769ec722", func := "baffle/bafflelaw20.HandshakeNames", spec := "handshakeNames", unfollowed := true, recurses := true, named := ["baffle/handshake.table", "baffle/handshake.names"], apart := false, laid := [("baffle/handshake.table", laid_baffle_handshake_table), ("baffle/handshake.names", laid_baffle_handshake_names)] }
def HandshakeNamesSaid : Prop := handshakeNamesRow.holds Tryd.pinned (OpenSpec.ofChange handshakeNamesSpec)

/-- ITS FALSE NEIGHBOUR: 'it returns false'. Refute it at one input. -/
def handshakeNamesWrong : ChangeSpec := { name := "handshakeNames", fn := fun _ => fun
  | [d1, d2] => { results := [.lit (.bool false)], args := [d1, d2] }
  | _ => none }
def HandshakeNamesWrongFalsely : Prop := handshakeNamesRow.holds Tryd.pinned (OpenSpec.ofChange handshakeNamesWrong)

/-- 'bafflelaw20.HandshakeTells': WHATEVER THE INPUT: true; the input reads as it did. -/
def handshakeTellsSpec : ChangeSpec := { name := "handshakeTells", fn := fun _ => fun
  | [d1, d2, d3, d4] => { results := [.lit (.bool true)], args := [d1, d2, d3, d4] }
  | _ => none }
def handshakeTellsRow : OpenClaim := { program := "ytdnammkfipfdbaadoor", sum := "48e0e48821c9dc306d4d5a49d3cbaf8ea6e6ee0b81d4c6b026525183769ec722", func := "baffle/bafflelaw20.HandshakeTells", spec := "handshakeTells", unfollowed := true, recurses := true, named := ["baffle/handshake.table", "baffle/handshake.names"], apart := false, laid := [("baffle/handshake.table", laid_baffle_handshake_table), ("baffle/handshake.names", laid_baffle_handshake_names)] }
def HandshakeTellsSaid : Prop := handshakeTellsRow.holds Tryd.pinned (OpenSpec.ofChange handshakeTellsSpec)

/-- ITS FALSE NEIGHBOUR: 'it returns false'. Refute it at one input. -/
def handshakeTellsWrong : ChangeSpec := { name := "handshakeTells", fn := fun _ => fun
  | [d1, d2, d3, d4] => { results := [.lit (.bool false)], args := [d1, d2, d3, d4] }
  | _ => none }
def HandshakeTellsWrongFalsely : Prop := handshakeTellsRow.holds Tryd.pinned (OpenSpec.ofChange handshakeTellsWrong)

/-- 'bafflelaw20.HandshakeLeaves': WHATEVER THE INPUT: true; the input reads as it did. -/
def handshakeLeavesSpec : ChangeSpec := { name := "handshakeLeaves", fn := fun _ => fun
  | [d1, d2] => { results := [.lit (.bool true)], args := [d1, d2] }
  | _ => none }
def handshakeLeavesRow : OpenClaim := { program := "ytdnammkfipfdbaadoor", sum := "48e0e48821c9dc306d4d5a49d3cbaf8ea6e6ee0b81d4c6b026525183769ec722", func := "baffle/bafflelaw20.HandshakeLeaves", spec := "handshakeLeaves", named := ["baffle/handshake.table", "baffle/handshake.names"], apart := false, laid := [("baffle/handshake.table", laid_baffle_handshake_table), ("baffle/handshake.names", laid_baffle_handshake_names)] }
def HandshakeLeavesSaid : Prop := handshakeLeavesRow.holds Tryd.pinned (OpenSpec.ofChange handshakeLeavesSpec)

/-- ITS FALSE NEIGHBOUR: 'it returns false'. Refute it at one input. -/
def handshakeLeavesWrong : ChangeSpec := { name := "handshakeLeaves", fn := fun _ => fun
  | [d1, d2] => { results := [.lit (.bool false)], args := [d1, d2] }
  | _ => none }
def HandshakeLeavesWrongFalsely : Prop := handshakeLeavesRow.holds Tryd.pinned (OpenSpec.ofChange handshakeLeavesWrong)

/-- 'bafflelaw20.HandshakeSmall': WHATEVER THE INPUT: true; the input reads as it did. -/
def handshakeSmallSpec : ChangeSpec := { name := "handshakeSmall", fn := fun _ => fun
  | [] => { results := [.lit (.bool true)], args := [] }
  | _ => none }
def handshakeSmallRow : OpenClaim := { program := "ytdnammkfipfdbaadoor", sum := "48e0e48821c9dc306d4d5a49d3cbaf8ea6e6ee0b81d4c6b026525183769ec722", func := "baffle/bafflelaw20.HandshakeSmall", spec := "handshakeSmall", unfollowed := true, recurses := true, named := ["baffle/handshake.table", "baffle/handshake.names"], apart := false, laid := [("baffle/handshake.table", laid_baffle_handshake_table), ("baffle/handshake.names", laid_baffle_handshake_names)] }
def HandshakeSmallSaid : Prop := handshakeSmallRow.holds Tryd.pinned (OpenSpec.ofChange handshakeSmallSpec)

/-- ITS FALSE NEIGHBOUR: 'it returns false'. Refute it at one input. -/
def handshakeSmallWrong : ChangeSpec := { name := "handshakeSmall", fn := fun _ => fun
  | [] => { results := [.lit (.bool false)], args := [] }
  | _ => none }
def HandshakeSmallWrongFalsely : Prop := handshakeSmallRow.holds Tryd.pinned (OpenSpec.ofChange handshakeSmallWrong)

/- THE SECOND FORM. 'bulk': how many values and letters a reading holds, each counted each time it is reached (what is shared counts as often as it is met; a slice's spare places count too). A statement '..UptoSaid' is the law's where the arguments, and the package variables that the reading takes, are together of bulk at most 1048576: NARROWER than '..Said'. Prove '..Said' where nothing that the law and all that it calls make is longer than what came in: it says more and counts as full. Else prove '..UptoSaid'. A law counts once. -/
mutual
def uptoBulk {H : Type} : DataW H → Nat
  | .lit (.string bytes) => bytes.length + 1
  | .lit _ => 1
  | .nil => 1
  | .ptr d => uptoBulk d + 1
  | .slice elems spare => uptoBulkAll elems + uptoBulkAll spare + 1
  | .agg parts => uptoBulkAll parts + 1
  | .iface _ d => uptoBulk d + 1
  | .map entries => uptoBulkEntries entries + 1
  | .held _ => 1
def uptoBulkAll {H : Type} : List (DataW H) → Nat
  | [] => 0
  | d :: r => uptoBulk d + uptoBulkAll r
def uptoBulkEntries {H : Type} : List (Lit × DataW H) → Nat
  | [] => 0
  | x :: r => uptoBulkEntry x + uptoBulkEntries r
def uptoBulkEntry {H : Type} : Lit × DataW H → Nat
  | (.string bytes, d) => bytes.length + uptoBulk d + 1
  | (_, d) => uptoBulk d + 1
 end
def uptoSmall : (H : Type) → List (DataW H) → Bool := fun _ ds => decide (uptoBulkAll ds ≤ 1048576)
def OpenSpec.upto (s : _root_.Go.ChangeSpec) : _root_.Go.OpenSpec := { _root_.Go.OpenSpec.ofChange s with cond := some uptoSmall }

/-- 'bafflelaw20.HandshakeRuns', WHERE WHAT IT READS IS OF BULK AT MOST 1048576: true; the input reads as it did. -/
def handshakeRunsUptoRow : OpenClaim := { program := "ytdnammkfipfdbaadoor", sum := "48e0e48821c9dc306d4d5a49d3cbaf8ea6e6ee0b81d4c6b026525183769ec722", func := "baffle/bafflelaw20.HandshakeRuns", spec := "handshakeRuns", named := ["baffle/handshake.table", "baffle/handshake.names"], apart := false, laid := [("baffle/handshake.table", laid_baffle_handshake_table), ("baffle/handshake.names", laid_baffle_handshake_names)], narrowed := true }
def HandshakeRunsUptoSaid : Prop := handshakeRunsUptoRow.holds Tryd.pinned (OpenSpec.upto handshakeRunsSpec)

/-- 'bafflelaw20.HandshakeTwice', WHERE WHAT IT READS IS OF BULK AT MOST 1048576: true; the input reads as it did. -/
def handshakeTwiceUptoRow : OpenClaim := { program := "ytdnammkfipfdbaadoor", sum := "48e0e48821c9dc306d4d5a49d3cbaf8ea6e6ee0b81d4c6b026525183769ec722", func := "baffle/bafflelaw20.HandshakeTwice", spec := "handshakeTwice", named := ["baffle/handshake.table", "baffle/handshake.names"], apart := false, laid := [("baffle/handshake.table", laid_baffle_handshake_table), ("baffle/handshake.names", laid_baffle_handshake_names)], narrowed := true }
def HandshakeTwiceUptoSaid : Prop := handshakeTwiceUptoRow.holds Tryd.pinned (OpenSpec.upto handshakeTwiceSpec)

/-- 'bafflelaw20.HandshakeOrder', WHERE WHAT IT READS IS OF BULK AT MOST 1048576: true; the input reads as it did. -/
def handshakeOrderUptoRow : OpenClaim := { program := "ytdnammkfipfdbaadoor", sum := "48e0e48821c9dc306d4d5a49d3cbaf8ea6e6ee0b81d4c6b026525183769ec722", func := "baffle/bafflelaw20.HandshakeOrder", spec := "handshakeOrder", named := ["baffle/handshake.table", "baffle/handshake.names"], apart := false, laid := [("baffle/handshake.table", laid_baffle_handshake_table), ("baffle/handshake.names", laid_baffle_handshake_names)], narrowed := true }
def HandshakeOrderUptoSaid : Prop := handshakeOrderUptoRow.holds Tryd.pinned (OpenSpec.upto handshakeOrderSpec)

/-- 'bafflelaw20.HandshakeWrong', WHERE WHAT IT READS IS OF BULK AT MOST 1048576: true; the input reads as it did. -/
def handshakeWrongUptoRow : OpenClaim := { program := "ytdnammkfipfdbaadoor", sum := "48e0e48821c9dc306d4d5a49d3cbaf8ea6e6ee0b81d4c6b026525183769ec722", func := "baffle/bafflelaw20.HandshakeWrong", spec := "handshakeWrong", named := ["baffle/handshake.table", "baffle/handshake.names"], apart := false, laid := [("baffle/handshake.table", laid_baffle_handshake_table), ("baffle/handshake.names", laid_baffle_handshake_names)], narrowed := true }
def HandshakeWrongUptoSaid : Prop := handshakeWrongUptoRow.holds Tryd.pinned (OpenSpec.upto handshakeWrongSpec)

/-- 'bafflelaw20.HandshakeNames', WHERE WHAT IT READS IS OF BULK AT MOST 1048576: true; the input reads as it did. -/
def handshakeNamesUptoRow : OpenClaim := { program := "ytdnammkfipfdbaadoor", sum := "48e0e48821c9dc306d4d5a49d3cbaf8ea6e6ee0b81d4c6b026525183769ec722", func := "baffle/bafflelaw20.HandshakeNames", spec := "handshakeNames", unfollowed := true, recurses := true, named := ["baffle/handshake.table", "baffle/handshake.names"], apart := false, laid := [("baffle/handshake.table", laid_baffle_handshake_table), ("baffle/handshake.names", laid_baffle_handshake_names)], narrowed := true }
def HandshakeNamesUptoSaid : Prop := handshakeNamesUptoRow.holds Tryd.pinned (OpenSpec.upto handshakeNamesSpec)

/-- 'bafflelaw20.HandshakeTells', WHERE WHAT IT READS IS OF BULK AT MOST 1048576: true; the input reads as it did. -/
def handshakeTellsUptoRow : OpenClaim := { program := "ytdnammkfipfdbaadoor", sum := "48e0e48821c9dc306d4d5a49d3cbaf8ea6e6ee0b81d4c6b026525183769ec722", func := "baffle/bafflelaw20.HandshakeTells", spec := "handshakeTells", unfollowed := true, recurses := true, named := ["baffle/handshake.table", "baffle/handshake.names"], apart := false, laid := [("baffle/handshake.table", laid_baffle_handshake_table), ("baffle/handshake.names", laid_baffle_handshake_names)], narrowed := true }
def HandshakeTellsUptoSaid : Prop := handshakeTellsUptoRow.holds Tryd.pinned (OpenSpec.upto handshakeTellsSpec)

/-- 'bafflelaw20.HandshakeLeaves', WHERE WHAT IT READS IS OF BULK AT MOST 1048576: true; the input reads as it did. -/
def handshakeLeavesUptoRow : OpenClaim := { program := "ytdnammkfipfdbaadoor", sum := "48e0e48821c9dc306d4d5a49d3cbaf8ea6e6ee0b81d4c6b026525183769ec722", func := "baffle/bafflelaw20.HandshakeLeaves", spec := "handshakeLeaves", named := ["baffle/handshake.table", "baffle/handshake.names"], apart := false, laid := [("baffle/handshake.table", laid_baffle_handshake_table), ("baffle/handshake.names", laid_baffle_handshake_names)], narrowed := true }
def HandshakeLeavesUptoSaid : Prop := handshakeLeavesUptoRow.holds Tryd.pinned (OpenSpec.upto handshakeLeavesSpec)

/-- 'bafflelaw20.HandshakeSmall', WHERE WHAT IT READS IS OF BULK AT MOST 1048576: true; the input reads as it did. -/
def handshakeSmallUptoRow : OpenClaim := { program := "ytdnammkfipfdbaadoor", sum := "48e0e48821c9dc306d4d5a49d3cbaf8ea6e6ee0b81d4c6b026525183769ec722", func := "baffle/bafflelaw20.HandshakeSmall", spec := "handshakeSmall", unfollowed := true, recurses := true, named := ["baffle/handshake.table", "baffle/handshake.names"], apart := false, laid := [("baffle/handshake.table", laid_baffle_handshake_table), ("baffle/handshake.names", laid_baffle_handshake_names)], narrowed := true }
def HandshakeSmallUptoSaid : Prop := handshakeSmallUptoRow.holds Tryd.pinned (OpenSpec.upto handshakeSmallSpec)

end Rows
end Go.Proofs.YtdnammkfipfdbaaDoor
