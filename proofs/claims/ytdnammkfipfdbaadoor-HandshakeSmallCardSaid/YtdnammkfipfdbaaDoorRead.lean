/-
  The contracts of handshake.Read, and of the reference's Name.
-/
import Derived.Test.YtdnammkfipfdbaaDoorAwake
namespace Go.Proofs.YtdnammkfipfdbaaDoor
open Go.RowKit
set_option linter.unusedVariables false

/-- The state with a name; 0 if there is none. -/
def rdx (s : ByteArray) : Int :=
  if ((nm 0).toList == s.toList) = true then 0 else if ((nm 1).toList == s.toList) = true then 1 else if ((nm 2).toList == s.toList) = true then 2 else if ((nm 3).toList == s.toList) = true then 3 else if ((nm 4).toList == s.toList) = true then 4 else
  if ((nm 5).toList == s.toList) = true then 5 else if ((nm 6).toList == s.toList) = true then 6 else if ((nm 7).toList == s.toList) = true then 7 else if ((nm 8).toList == s.toList) = true then 8 else 0

set_option maxHeartbeats 2000000 in
theorem read_any (s : ByteArray) (w : World) (hT : Tab w) :
    Calls Tryd.prog 20 #[.string s] w fun e w' => e = .returned (.tuple #[.int .u8 (rdx s), .bool (rdx s != 0)]) ∧ Below w.heap.size w w' := by
  have n0 := hT.names 0 (by decide)
  have n1 := hT.names 1 (by decide)
  have n2 := hT.names 2 (by decide)
  have n3 := hT.names 3 (by decide)
  have n4 := hT.names 4 (by decide)
  have n5 := hT.names 5 (by decide)
  have n6 := hT.names 6 (by decide)
  have n7 := hT.names 7 (by decide)
  have n8 := hT.names 8 (by decide)
  have hsz : 1 < w.heap.size := hT.size
  clear hT
  go_enter Tryd.func20, Tryd.ntmps20
  go_wp2
  go_rounds 10
  all_goals
    go_ret2
    refine ⟨?_, (Below.refl _ _).alloc (Nat.le_refl _) _⟩
    unfold rdx
    simp_all

end Go.Proofs.YtdnammkfipfdbaaDoor
