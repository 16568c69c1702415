/-
  The contracts of the reference: over (a quotient, bit by bit), Scaled, Most, Deadline, RightScale, timed: each returns what the plain function gives.
-/
import Derived.Test.YtkcgijkccpiljaaDoorMath
namespace Go.Proofs.YtkcgijkccpiljaaDoor
open Go.RowKit
set_option linter.unusedVariables false

def Pow (u : Int) : Prop := ∃ k : Nat, u = 2 ^ k
theorem pow_half {u : Int} (h : Pow u) (h1 : ¬ u = 1) : ∃ v, Pow v ∧ u = 2 * v ∧ 1 ≤ v := by
  obtain ⟨k, rfl⟩ := h
  cases k with
  | zero => exact absurd rfl h1
  | succ k => exact ⟨2 ^ k, ⟨k, rfl⟩, by rw [Int.pow_succ, Int.mul_comm], by have : (0 : Int) < 2 ^ k := Int.pow_pos (by omega); omega⟩
theorem pow_dbl {u : Int} (h : Pow u) : Pow (2 * u) := by
  obtain ⟨k, rfl⟩ := h
  exact ⟨k + 1, by rw [Int.pow_succ, Int.mul_comm]⟩

/-- What holds in the second loop. -/
def Half (a0 b x o u : Int) : Prop := 0 ≤ x ∧ 0 ≤ o ∧ a0 = x + b * o ∧ 0 ≤ u ∧ b * u ≤ 2 * a0 + b ∧ ((u = 0 ∧ x < b) ∨ (Pow u ∧ 1 ≤ u ∧ x < 2 * (b * u)))

theorem half_yes {a0 b x o u : Int} (hb : 1 ≤ b) (h : Half a0 b x o u) (hu : 0 < u) (hle : b * u ≤ x) : Half a0 b (x - b * u) (o + u) (u / 2) := by
  obtain ⟨h1, h2, h3, h4, h5, h6⟩ := h
  rcases h6 with ⟨h6, _⟩ | ⟨hp, h7, h8⟩
  · omega
  by_cases h1u : u = 1
  · subst h1u
    refine ⟨by omega, by omega, by rw [Int.mul_add]; omega, by omega, by simp; omega, .inl ⟨rfl, by omega⟩⟩
  · obtain ⟨v, hv, rfl, hv1⟩ := pow_half hp h1u
    have e : 2 * v / 2 = v := by omega
    have e2 : b * (2 * v) = 2 * (b * v) := by rw [Int.mul_left_comm]
    have hbv : 0 ≤ b * v := Int.mul_nonneg (by omega) (by omega)
    rw [e]
    refine ⟨by omega, by omega, by rw [Int.mul_add]; omega, by omega, by omega, .inr ⟨hv, hv1, by omega⟩⟩
theorem half_no {a0 b x o u : Int} (hb : 1 ≤ b) (h : Half a0 b x o u) (hu : 0 < u) (hle : x < b * u) : Half a0 b x o (u / 2) := by
  obtain ⟨h1, h2, h3, h4, h5, h6⟩ := h
  rcases h6 with ⟨h6, _⟩ | ⟨hp, h7, h8⟩
  · omega
  by_cases h1u : u = 1
  · subst h1u
    refine ⟨by omega, by omega, by omega, by omega, by simp; omega, .inl ⟨rfl, by omega⟩⟩
  · obtain ⟨v, hv, rfl, hv1⟩ := pow_half hp h1u
    have e : 2 * v / 2 = v := by omega
    have e2 : b * (2 * v) = 2 * (b * v) := by rw [Int.mul_left_comm]
    have hbv : 0 ≤ b * v := Int.mul_nonneg (by omega) (by omega)
    rw [e]
    refine ⟨by omega, by omega, by omega, by omega, by omega, .inr ⟨hv, hv1, by omega⟩⟩
theorem half_end {a0 b x o u : Int} (hb : 1 ≤ b) (h : Half a0 b x o u) (hu : ¬ 0 < u) : o = a0 / b := by
  obtain ⟨h1, h2, h3, h4, h5, h6⟩ := h
  rcases h6 with ⟨h6, h7⟩ | ⟨_, h7, _⟩
  · have := (Int.ediv_emod_unique (a := a0) (b := b) (q := o) (r := x) (by omega)).2 ⟨by omega, h1, h7⟩
    exact this.1.symm
  · omega
theorem half_bounds {a0 b x o u : Int} (hb : 1 ≤ b) (h : Half a0 b x o u) : x ≤ a0 ∧ o ≤ a0 ∧ u ≤ 2 * a0 + b ∧ 0 ≤ b * u := by
  obtain ⟨h1, h2, h3, h4, h5, h6⟩ := h
  have k1 : 0 ≤ b * o := Int.mul_nonneg (by omega) h2
  have k2 : 1 * o ≤ b * o := Int.mul_le_mul_of_nonneg_right hb h2
  have k3 : 1 * u ≤ b * u := Int.mul_le_mul_of_nonneg_right hb h4
  have k4 : 0 ≤ b * u := Int.mul_nonneg (by omega) h4
  omega

set_option maxHeartbeats 1000000 in
theorem over_any (a b : Int) (w : World) (ha : 0 ≤ a) (ha2 : a ≤ 35184372088832) (hb : 1 ≤ b) (hb2 : b ≤ 16777216) :
    Calls Tryd.prog 46 #[.int .i64 a, .int .i64 b] w fun e w' => e = .returned (.int .i64 (a / b)) ∧ w = w' := by
  go_enter Tryd.func46, Tryd.ntmps46
  go_wp2_with fail
  go_loop [6] (fun t => ∃ u : Int, t = .int .i64 u ∧ 1 ≤ u ∧ Hid (Pow u) ∧ b * u ≤ 2 * a + b) (fun t => (2 * a + b + 1 - intOf t).toNat)
  case atStart => exact ⟨1, rfl, by omega, ⟨0, rfl⟩, by omega⟩
  case round =>
    obtain ⟨u, rfl, h1, hp, h2⟩ := hrel
    have k3 : 1 * u ≤ b * u := Int.mul_le_mul_of_nonneg_right hb (by omega)
    have k4 : 0 ≤ b * u := Int.mul_nonneg (by omega) (by omega)
    have e2 : b * (2 * u) = 2 * (b * u) := by rw [Int.mul_left_comm]
    have E2 := Lib.hid e2
    clear e2
    rw [Int.one_mul] at k3
    by_cases hc : b * u ≤ a
    · go_wp2_with fail
      go_round
      case rel => exact ⟨2 * u, rfl, by omega, pow_dbl hp.out, by rw [E2.out]; omega⟩
      case measure => simp [intOf]; omega
    · have H0 : Hid (Half a b a 0 u) := ⟨ha, by omega, by omega, by omega, h2, .inr ⟨hp.out, h1, by omega⟩⟩
      clear hp E2
      go_wp2_with fail
      go_loop [0, 5, 6] (fun s p t => ∃ x o u : Int, s = .int .i64 x ∧ p = .int .i64 o ∧ t = .int .i64 u ∧ Hid (Half a b x o u)) (fun _ _ t => (intOf t).toNat)
      case atStart => exact ⟨a, 0, u, rfl, rfl, rfl, H0⟩
      case round =>
        clear h1 h2 k3 k4 H0 hc
        obtain ⟨x, o, v, rfl, rfl, rfl, H⟩ := hrel
        obtain ⟨b1, b2, b3, b4⟩ := half_bounds hb H.out
        have c1 := H.out.1
        have c2 := H.out.2.1
        have c3 := H.out.2.2.2.1
        have c4 := H.out.2.2.2.2.1
        by_cases hv : 0 < v
        · by_cases hle : b * v ≤ x
          · have H' := Lib.hid (half_yes hb H.out hv hle)
            go_wp2_with fail
            go_round
            case rel => exact ⟨_, _, _, rfl, rfl, rfl, H'.out⟩
            case measure => simp [intOf]; omega
          · have H' := Lib.hid (half_no hb H.out hv (by omega))
            go_wp2_with fail
            go_round
            case rel => exact ⟨_, _, _, rfl, rfl, rfl, H'.out⟩
            case measure => simp [intOf]; omega
        · have H' := Lib.hid (half_end hb H.out hv)
          go_wp2_with fail
          go_ret
          exact ⟨by rw [← H'.out]; rfl, rfl⟩

end Go.Proofs.YtkcgijkccpiljaaDoor
