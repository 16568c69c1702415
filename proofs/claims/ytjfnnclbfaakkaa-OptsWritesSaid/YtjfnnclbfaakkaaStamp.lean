/-
  The contract of the stamp's shape. Conditions: those of the theorem.
-/
import Derived.Test.YtjfnnclbfaakkaaShape
namespace Go.Proofs.Ytjfnnclbfaakkaa
open Go.RowKit
set_option linter.unusedVariables false
set_option linter.unusedSimpArgs false

def ssz (y : Int) : Int := if y % 16 = 0 then 4 else if y % 16 = 1 ∨ y % 16 = 3 then 8 else 0
/-- Right data of a stamp: its length, its first two bytes. -/
def stm (n : Nat) (x y : Int) : Bool := decide (2 ≤ n) && (ssz y != 0) && (((n : Int) - 2) % ssz y == 0) && decide (0 ≤ x - 5) && ((x - 5) % ssz y == 0) && decide (x - 5 ≤ (n : Int) - 2)
set_option maxHeartbeats 4000000 in
theorem stamp_any (A : Option Addr) (n cap : Nat) (x y : Int) (w : World) (hn : n < 2 ^ 62) (hx : 0 ≤ x ∧ x ≤ 255) (hy : 0 ≤ y ∧ y ≤ 255) (h0 : 1 < n → ∃ b o, A = some ⟨b, o, none⟩ ∧ w.cell? ⟨b, o, none⟩ = some (.int .u8 x) ∧ w.cell? ⟨b, o + 1, none⟩ = some (.int .u8 y)) :
    Calls Try.prog 57 #[.slice A n cap] w fun e w' => e = .returned (.bool (stm n x y)) ∧ Below w.heap.size w w' := by
  by_cases h2 : n < 2
  · have d : decide ((n : Int) < 2) = true := by simp; omega
    have e : stm n x y = false := by simp [stm]; omega
    rw [e]
    go_enter Try.func57, Try.ntmps57
    go_wp2_with fail
    go_ret
    exact ⟨rfl, Below.refl _ _⟩
  have d : decide ((n : Int) < 2) = false := by simp; omega
  obtain ⟨b, o, rfl, c0, c1⟩ := h0 (by omega)
  have hb : b < w.heap.size := cell_lt c0
  have hpos : (1 : Int) < n := by omega
  have ym : y.tmod 16 = y % 16 := Int.tmod_eq_emod_of_nonneg hy.1
  have hw1 : IntKind.i64.wrap ((n : Int) - 2) = (n : Int) - 2 := IntWalk.i64_in _ (by omega)
  have hw2 : IntKind.i64.wrap (x - 5) = x - 5 := IntWalk.i64_in _ (by omega)
  obtain ⟨f, hf⟩ : ∃ f, y % 16 = f := ⟨_, rfl⟩
  have hf0 : 0 ≤ f ∧ f ≤ 15 := by omega
  have hwd : w.heap.size ≤ w.heap.size := Nat.le_refl _
  rcases (by omega : f = 0 ∨ f = 1 ∨ f = 2 ∨ f = 3 ∨ 3 < f) with rfl | rfl | rfl | rfl | hgt
  · have z : ssz y = 4 := by simp [ssz, hf]
    have nm : ((n : Int) - 2).tmod 4 = ((n : Int) - 2) % 4 := Int.tmod_eq_emod_of_nonneg (by omega)
    unfold stm
    rw [z]
    have p1 : decide (2 ≤ n) = true := by simp; omega
    rw [p1]
    obtain ⟨q1, hq1⟩ : ∃ q, (((n : Int) - 2) % 4 == 0) = q := ⟨_, rfl⟩
    obtain ⟨q2, hq2⟩ : ∃ q, decide (0 ≤ x - 5) = q := ⟨_, rfl⟩
    obtain ⟨q4, hq4⟩ : ∃ q, decide (x - 5 ≤ (n : Int) - 2) = q := ⟨_, rfl⟩
    have hq5 : decide (5 ≤ x) = q2 := by rw [← hq2]; exact decide_eq_decide.2 (by omega)
    rw [hq1, hq2, hq4]
    cases q1
    · go_enter Try.func57, Try.ntmps57
      go_wp2_with fail
      go_ret
      exact ⟨by simp, (Below.refl _ _).alloc (Nat.le_refl _) _⟩
    cases q2
    · go_enter Try.func57, Try.ntmps57
      go_wp2_with fail
      go_ret
      exact ⟨by simp, (Below.refl _ _).alloc (Nat.le_refl _) _⟩
    have xm : (x - 5).tmod 4 = (x - 5) % 4 := Int.tmod_eq_emod_of_nonneg (by simpa using hq2)
    obtain ⟨q3, hq3⟩ : ∃ q, ((x - 5) % 4 == 0) = q := ⟨_, rfl⟩
    rw [hq3]
    cases q3
    · go_enter Try.func57, Try.ntmps57
      go_wp2_with fail
      go_ret
      exact ⟨by simp, (Below.refl _ _).alloc (Nat.le_refl _) _⟩
    go_enter Try.func57, Try.ntmps57
    go_wp2_with fail
    go_ret
    exact ⟨by simp, (Below.refl _ _).alloc (Nat.le_refl _) _⟩
  · have z : ssz y = 8 := by simp [ssz, hf]
    have nm : ((n : Int) - 2).tmod 8 = ((n : Int) - 2) % 8 := Int.tmod_eq_emod_of_nonneg (by omega)
    unfold stm
    rw [z]
    have p1 : decide (2 ≤ n) = true := by simp; omega
    rw [p1]
    obtain ⟨q1, hq1⟩ : ∃ q, (((n : Int) - 2) % 8 == 0) = q := ⟨_, rfl⟩
    obtain ⟨q2, hq2⟩ : ∃ q, decide (0 ≤ x - 5) = q := ⟨_, rfl⟩
    obtain ⟨q4, hq4⟩ : ∃ q, decide (x - 5 ≤ (n : Int) - 2) = q := ⟨_, rfl⟩
    have hq5 : decide (5 ≤ x) = q2 := by rw [← hq2]; exact decide_eq_decide.2 (by omega)
    rw [hq1, hq2, hq4]
    cases q1
    · go_enter Try.func57, Try.ntmps57
      go_wp2_with fail
      go_ret
      exact ⟨by simp, (Below.refl _ _).alloc (Nat.le_refl _) _⟩
    cases q2
    · go_enter Try.func57, Try.ntmps57
      go_wp2_with fail
      go_ret
      exact ⟨by simp, (Below.refl _ _).alloc (Nat.le_refl _) _⟩
    have xm : (x - 5).tmod 8 = (x - 5) % 8 := Int.tmod_eq_emod_of_nonneg (by simpa using hq2)
    obtain ⟨q3, hq3⟩ : ∃ q, ((x - 5) % 8 == 0) = q := ⟨_, rfl⟩
    rw [hq3]
    cases q3
    · go_enter Try.func57, Try.ntmps57
      go_wp2_with fail
      go_ret
      exact ⟨by simp, (Below.refl _ _).alloc (Nat.le_refl _) _⟩
    go_enter Try.func57, Try.ntmps57
    go_wp2_with fail
    go_ret
    exact ⟨by simp, (Below.refl _ _).alloc (Nat.le_refl _) _⟩
  · have z : ssz y = 0 := by simp [ssz, hf]
    have e : stm n x y = false := by simp [stm, z]
    rw [e]
    go_enter Try.func57, Try.ntmps57
    go_wp2_with fail
    go_ret
    exact ⟨rfl, (Below.refl _ _).alloc (Nat.le_refl _) _⟩
  · have z : ssz y = 8 := by simp [ssz, hf]
    have nm : ((n : Int) - 2).tmod 8 = ((n : Int) - 2) % 8 := Int.tmod_eq_emod_of_nonneg (by omega)
    unfold stm
    rw [z]
    have p1 : decide (2 ≤ n) = true := by simp; omega
    rw [p1]
    obtain ⟨q1, hq1⟩ : ∃ q, (((n : Int) - 2) % 8 == 0) = q := ⟨_, rfl⟩
    obtain ⟨q2, hq2⟩ : ∃ q, decide (0 ≤ x - 5) = q := ⟨_, rfl⟩
    obtain ⟨q4, hq4⟩ : ∃ q, decide (x - 5 ≤ (n : Int) - 2) = q := ⟨_, rfl⟩
    have hq5 : decide (5 ≤ x) = q2 := by rw [← hq2]; exact decide_eq_decide.2 (by omega)
    rw [hq1, hq2, hq4]
    cases q1
    · go_enter Try.func57, Try.ntmps57
      go_wp2_with fail
      go_ret
      exact ⟨by simp, (Below.refl _ _).alloc (Nat.le_refl _) _⟩
    cases q2
    · go_enter Try.func57, Try.ntmps57
      go_wp2_with fail
      go_ret
      exact ⟨by simp, (Below.refl _ _).alloc (Nat.le_refl _) _⟩
    have xm : (x - 5).tmod 8 = (x - 5) % 8 := Int.tmod_eq_emod_of_nonneg (by simpa using hq2)
    obtain ⟨q3, hq3⟩ : ∃ q, ((x - 5) % 8 == 0) = q := ⟨_, rfl⟩
    rw [hq3]
    cases q3
    · go_enter Try.func57, Try.ntmps57
      go_wp2_with fail
      go_ret
      exact ⟨by simp, (Below.refl _ _).alloc (Nat.le_refl _) _⟩
    go_enter Try.func57, Try.ntmps57
    go_wp2_with fail
    go_ret
    exact ⟨by simp, (Below.refl _ _).alloc (Nat.le_refl _) _⟩
  · have z : ssz y = 0 := by simp [ssz, hf]; omega
    have e : stm n x y = false := by simp [stm, z]
    rw [e]
    have dg : decide (3 < f) = true := by simpa using hgt
    have hmn : (if f < 3 then f else 3) = 3 := by rw [if_neg (by omega)]
    go_enter Try.func57, Try.ntmps57
    go_wp2_with fail
    go_ret
    exact ⟨rfl, (Below.refl _ _).alloc (Nat.le_refl _) _⟩

end Go.Proofs.Ytjfnnclbfaakkaa
