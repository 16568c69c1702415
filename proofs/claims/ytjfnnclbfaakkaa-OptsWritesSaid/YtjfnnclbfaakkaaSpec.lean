/-
  Plain definitions, of no program: what options yields, what Read returns.
-/
import Derived.Test.YtjfnnclbfaakkaaRight
import Derived.Test.YtjfnnclbfaakkaaClone
namespace Go.Proofs.Ytjfnnclbfaakkaa
open Go.RowKit
set_option linter.unusedVariables false
set_option linter.unusedSimpArgs false

/-- What options yields of some bytes: errors and options. -/
def yl : Nat → List Int → List (Int × Op1)
  | 0, _ => []
  | _ + 1, [] => []
  | f + 1, k :: r =>
    if k = 0 then (if 0 < mx k r then [(62, (0, []))] else [])
    else if k = 1 then (0, (1, [])) :: yl f r
    else match r with
      | [] => [(60, (0, []))]
      | n :: q =>
        if n < 2 then [(61, (0, []))]
        else if (q.length : Int) + 2 < n then [(60, (0, []))]
        else if rightS (k, q.take (n - 2).toNat) then (0, (k, q.take (n - 2).toNat)) :: yl f (q.drop (n - 2).toNat)
        else [(61, (k, q.take (n - 2).toNat))]
/-- What Read makes of what is yielded. -/
def fd (l : List Op1) : List (Int × Op1) → Int × List Op1
  | [] => (0, l)
  | (e, o) :: r => if e ≠ 0 then (e, []) else if 0 < grp o.1 ∧ l.any (fun p => grp p.1 == grp o.1) then (63, []) else fd (l ++ [o]) r
/-- What Read returns. -/
def readS (b : List Int) : Int × List Op1 := if 40 < b.length then (3, []) else fd [] (yl b.length b)

/-- What is yielded, as it lies. -/
structure Yv where
  e : Int
  k : Int
  d : List Int
  A : Option Addr
  c : Nat
def Yv.op (y : Yv) : Int × Op1 := (y.e, (y.k, y.d))
def Yv.enc (y : Yv) : Array Value := #[.agg #[.int .u8 y.k, .slice y.A y.d.length y.c], .int .i64 y.e]
/-- Its data lies in a block of its own. -/
structure Yv.Own (m : Nat) (y : Yv) (W : World) : Prop where
  row : W.ownsRow m 5 1 (.slice y.A y.d.length y.c) y.d.length (y.d.map (Value.int .u8))
  kind : 0 ≤ y.k ∧ y.k ≤ 255
  rng : ∀ x ∈ y.d, 0 ≤ x ∧ x ≤ 255

end Go.Proofs.Ytjfnnclbfaakkaa
