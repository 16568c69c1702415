/-
  The contracts of bafflekit's mark, markByte and LentBytes. Conditions: the ranges of the numbers; the bytes lie.
-/
import Derived.Test.YtjfnnclbfaakkaaGot
import Derived.BigQuiet
import Derived.BigRegion
import Derived.Deep.CutBlock
namespace Go.Proofs.Ytjfnnclbfaakkaa
open Go.RowKit
set_option linter.unusedVariables false
set_option linter.unusedSimpArgs false

/-- The mark of an index of a slice. -/
def mkS (k i : Int) : Int := 1000003 * (k + 7) + i
/-- The mark as a byte. -/
def mbS (k i : Int) : Int := mkS k i * 11400714819323198485 % 2 ^ 64 / 2 ^ 56
theorem mbS_rng (k i : Int) : 0 ≤ mbS k i ∧ mbS k i ≤ 255 := by
  unfold mbS
  omega
theorem mark_any (k i : Int) (w : World) (hk : 0 ≤ k ∧ k ≤ 2 ^ 20) (hi : 0 ≤ i ∧ i ≤ 2 ^ 50) : Calls Try.prog 63 #[.int .i64 k, .int .i64 i] w fun e w' => e = .returned (.int .i64 (mkS k i)) ∧ w' = w := by
  have h1 : IntKind.i64.wrap (k + 7) = k + 7 := IntWalk.i64_in _ (by omega)
  have h2 : IntKind.i64.wrap (1000003 * (k + 7)) = 1000003 * (k + 7) := IntWalk.i64_in _ (by omega)
  have h3 : IntKind.i64.wrap (1000003 * (k + 7) + i) = 1000003 * (k + 7) + i := IntWalk.i64_in _ (by omega)
  unfold mkS
  go_enter Try.func63, Try.ntmps63
  go_wp2_with fail
  go_ret
  exact ⟨rfl, rfl⟩
theorem markByte_any (k i : Int) (w : World) (hk : 0 ≤ k ∧ k ≤ 2 ^ 20) (hi : 0 ≤ i ∧ i ≤ 2 ^ 50) : Calls Try.prog 49 #[.int .i64 k, .int .i64 i] w fun e w' => e = .returned (.int .u8 (mbS k i)) ∧ w' = w := by
  have hr := mbS_rng k i
  obtain ⟨r, hr'⟩ : ∃ r, mbS k i = r := ⟨_, rfl⟩
  have HR := Lib.hid hr'
  rw [hr'] at hr ⊢
  obtain ⟨m, hm⟩ : ∃ m, mkS k i = m := ⟨_, rfl⟩
  have hmr : 0 ≤ m ∧ m < 2 ^ 62 := by rw [← hm]; unfold mkS; omega
  have HM := Lib.hid hm
  have h1 : IntKind.u64.wrap m = m := IntWalk.u64_in _ (by omega)
  have h4 : IntKind.u8.wrap r = r := IntWalk.u8_in _ (by omega)
  clear hr' hm
  go_enter Try.func49, Try.ntmps49
  go_wp2_with fail
  refine (mark_any k i _ hk hi).mono ?_
  rintro e Y ⟨rfl, hY⟩
  rw [hY, HM.out]
  clear hY
  go_wp2_with fail
  have hval : IntKind.u64.wrap (m * 11400714819323198485) / 72057594037927936 % 256 = r := by
    rw [← HR.out]
    unfold mbS
    rw [HM.out]
    have : IntKind.u64.wrap (m * 11400714819323198485) = m * 11400714819323198485 % 2 ^ 64 := rfl
    rw [this]
    omega
  rw [hval]
  go_ret
  exact ⟨rfl, rfl⟩

end Go.Proofs.Ytjfnnclbfaakkaa
