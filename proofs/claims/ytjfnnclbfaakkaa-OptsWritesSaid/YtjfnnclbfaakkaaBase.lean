/-
  The contract of opts.group. No conditions.
-/
import Derived.Test.YtjfnnclbfaakkaaSlice
import Derived.Test.YtjfnnclbfaakkaaProg
import Derived.WalkKit
namespace Go.Proofs.Ytjfnnclbfaakkaa
open Go.RowKit
set_option linter.unusedVariables false
set_option linter.unusedSimpArgs false

/-- The group of a kind. -/
def grp (k : Int) : Int := if k = 7 then 1 else if k = 68 then 2 else if k = 131 ∨ k = 137 then 3 else 0
theorem group_any (k : Int) (w : World) : Calls Try.prog 34 #[.int .u8 k] w fun e w' => e = .returned (.int .i64 (grp k)) ∧ w' = w := by
  unfold grp
  by_cases h1 : k = 7
  · subst h1
    go_enter Try.func34, Try.ntmps34
    go_wp2_with fail
    go_ret
    exact ⟨rfl, rfl⟩
  by_cases h2 : k = 68
  · subst h2
    go_enter Try.func34, Try.ntmps34
    go_wp2_with fail
    go_ret
    exact ⟨rfl, rfl⟩
  by_cases h3 : k = 131
  · subst h3
    go_enter Try.func34, Try.ntmps34
    go_wp2_with fail
    go_ret
    exact ⟨rfl, rfl⟩
  by_cases h4 : k = 137
  · subst h4
    go_enter Try.func34, Try.ntmps34
    go_wp2_with fail
    go_ret
    exact ⟨rfl, rfl⟩
  have b1 : (k == 7) = false := by simpa using h1
  have b2 : (k == 68) = false := by simpa using h2
  have b3 : (k == 131) = false := by simpa using h3
  have b4 : (k == 137) = false := by simpa using h4
  go_enter Try.func34, Try.ntmps34
  go_wp2_with fail
  go_ret
  exact ⟨by simp [h1, h2, h3, h4], rfl⟩

end Go.Proofs.Ytjfnnclbfaakkaa
