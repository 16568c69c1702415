/-
  The first statement of a code that is as asked: a long walk can be cut into several theorems. No conditions.
-/
import Derived.Test.YtjfnnclbfaakkaaListed
namespace Go.Proofs.Ytjfnnclbfaakkaa
open Go.RowKit
set_option linter.unusedVariables false
set_option linter.unusedSimpArgs false

/-- The first statement of a code that is as asked. -/
def findC (p : Code → Bool) : Code → Option Code
  | .seq a b => if p (.seq a b) then some (.seq a b) else match findC p a with
    | some c => some c
    | none => findC p b
  | .cond x a b => if p (.cond x a b) then some (.cond x a b) else match findC p a with
    | some c => some c
    | none => findC p b
  | .block n a => if p (.block n a) then some (.block n a) else findC p a
  | .loop a => if p (.loop a) then some (.loop a) else findC p a
  | .scope a => if p (.scope a) then some (.scope a) else findC p a
  | c => if p c then some c else none
def isCond (t : Nat) : Code → Bool
  | .cond (.tmp n) _ _ => n == t
  | _ => false
def isReg (t : Nat) : Code → Bool
  | .region n _ _ => n == t
  | _ => false
def isBlock (t : Nat) : Code → Bool
  | .block n _ => n == t
  | _ => false
/-- A sequence whose first part begins by region t. -/
def isSeqR (t : Nat) : Code → Bool
  | .seq (.seq (.region n _ _) _) _ => n == t
  | _ => false
/-- A sequence that begins by region t. -/
def isSeqL (t : Nat) : Code → Bool
  | .seq (.region n _ _) _ => n == t
  | _ => false
end Go.Proofs.Ytjfnnclbfaakkaa
