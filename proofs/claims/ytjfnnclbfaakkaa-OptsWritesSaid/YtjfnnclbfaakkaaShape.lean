/-
  The contracts of the shapes of options. Conditions: those of the theorems.
-/
import Derived.Test.YtjfnnclbfaakkaaBase
namespace Go.Proofs.Ytjfnnclbfaakkaa
open Go.RowKit
set_option linter.unusedVariables false
set_option linter.unusedSimpArgs false

/-- Right data of an option with addresses: its length, its first byte. -/
def adr (n : Nat) (x : Int) : Bool := n % 4 == 1 && decide (4 ≤ x) && x % 4 == 0 && decide (x ≤ (n : Int) + 3)
theorem addr_any (A : Option Addr) (n cap : Nat) (x : Int) (w : World) (hn : n < 2 ^ 62) (hx : 0 ≤ x ∧ x ≤ 255) (h0 : 0 < n → ∃ b o, A = some ⟨b, o, none⟩ ∧ w.cell? ⟨b, o, none⟩ = some (.int .u8 x)) :
    Calls Try.prog 55 #[.slice A n cap] w fun e w' => e = .returned (.bool (adr n x)) ∧ w' = w := by
  by_cases h1 : n % 4 = 1
  · obtain ⟨b, o, rfl, hc⟩ := h0 (by omega)
    have m1 : (n : Int).tmod 4 = 1 := by rw [Int.tmod_eq_emod_of_nonneg (by omega)]; omega
    have xm : x.tmod 4 = x % 4 := Int.tmod_eq_emod_of_nonneg hx.1
    have hpos : (0 : Int) < n := by omega
    have hw : IntKind.i64.wrap ((n : Int) + 3) = (n : Int) + 3 := IntWalk.i64_in _ (by omega)
    by_cases h2 : 4 ≤ x
    · have d2 : decide (4 ≤ x) = true := by simpa using h2
      by_cases h3 : x % 4 = 0
      · by_cases h4 : x ≤ (n : Int) + 3
        · have d4 : decide (x ≤ (n : Int) + 3) = true := by simpa using h4
          have e : adr n x = true := by simp [adr, h1, h2, h3, h4]
          rw [e]
          go_enter Try.func55, Try.ntmps55
          go_wp2_with fail
          go_ret
          exact ⟨rfl, rfl⟩
        · have d4 : decide (x ≤ (n : Int) + 3) = false := by simpa using h4
          have e : adr n x = false := by simp [adr, h4]
          rw [e]
          go_enter Try.func55, Try.ntmps55
          go_wp2_with fail
          go_ret
          exact ⟨rfl, rfl⟩
      · have d3 : (x % 4 == 0) = false := by simpa using h3
        have e : adr n x = false := by simp [adr, h3]
        rw [e]
        go_enter Try.func55, Try.ntmps55
        go_wp2_with fail
        go_ret
        exact ⟨rfl, rfl⟩
    · have d2 : decide (4 ≤ x) = false := by simpa using h2
      have e : adr n x = false := by simp [adr, h2]
      rw [e]
      go_enter Try.func55, Try.ntmps55
      go_wp2_with fail
      go_ret
      exact ⟨rfl, rfl⟩
  · have m1 : (n : Int).tmod 4 = (n : Int) % 4 := Int.tmod_eq_emod_of_nonneg (by omega)
    have d1 : ((n : Int) % 4 == 1) = false := by simp; omega
    have e : adr n x = false := by simp [adr, h1]
    rw [e]
    go_enter Try.func55, Try.ntmps55
    go_wp2_with fail
    go_ret
    exact ⟨rfl, rfl⟩
theorem alert_any (A : Option Addr) (n cap : Nat) (w : World) (hn : n < 2 ^ 62) :
    Calls Try.prog 56 #[.slice A n cap] w fun e w' => e = .returned (.bool (n == 2)) ∧ w' = w := by
  have d : ((n : Int) == 2) = (n == 2) := by
    rw [Bool.eq_iff_iff]
    simp
    omega
  go_enter Try.func56, Try.ntmps56
  go_wp2_with fail
  go_ret
  exact ⟨rfl, rfl⟩

end Go.Proofs.Ytjfnnclbfaakkaa
