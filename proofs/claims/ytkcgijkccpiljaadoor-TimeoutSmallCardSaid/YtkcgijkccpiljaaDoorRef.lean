/-
  The contracts of the reference's Scaled, Most, Deadline, RightScale and timed: each returns what the program's own returns.
-/
import Derived.Test.YtkcgijkccpiljaaDoorOver
namespace Go.Proofs.YtkcgijkccpiljaaDoor
open Go.RowKit
set_option linter.unusedVariables false

theorem rtimed_any (t : Int) (w : World) : Calls Tryd.prog 45 #[.int .i64 t] w fun e w' => e = .returned (.bool (tmd t)) ∧ w = w' := by
  by_cases h1 : 0 < t
  all_goals by_cases h2 : t ≤ 16777215
  all_goals first | (exfalso; omega) | skip
  all_goals (go_enter Tryd.func45, Tryd.ntmps45; go_wp2_with fail; go_ret; exact ⟨by simp_all [tmd]; try omega, rfl⟩)

theorem rrightScale_any (a b : Int) (w : World) : Calls Tryd.prog 32 #[.agg #[.int .i64 a, .int .i64 b]] w fun e w' => e = .returned (.bool (rsc a b)) ∧ Below w.heap.size w w' := by
  by_cases h1 : 0 ≤ a
  all_goals by_cases h2 : a < b
  all_goals by_cases h3 : b ≤ 1048576
  all_goals first | (exfalso; omega) | skip
  all_goals (go_enter Tryd.func32, Tryd.ntmps32; go_wp2_with fail; go_ret; exact ⟨by simp_all [rsc], (Below.refl _ _).alloc (Nat.le_refl _) _⟩)

set_option maxHeartbeats 400000 in
theorem rdeadline_any (now t : Int) (w : World) : Calls Tryd.prog 31 #[.int .i64 now, .int .i64 t] w fun e w' => e = .returned (.tuple #[.int .i64 (dln now t).1, .int .i64 (dln now t).2]) ∧ w = w' := by
  by_cases h1 : 0 ≤ now
  all_goals by_cases h2 : now ≤ 1099511627776
  all_goals by_cases h3 : tmd t = true
  all_goals first | (exfalso; omega) | skip
  · have e1 : dln now t = (now + t, 0) := by simp [dln, h1, h2, h3]
    have k1 := tmd_true h3
    have HT : Hid (∀ W, Calls Tryd.prog 45 #[.int .i64 t] W fun e w' => e = .returned (.bool true) ∧ W = w') := fun W => h3 ▸ rtimed_any t W
    rw [e1]
    clear e1 h3
    obtain ⟨k1, k2⟩ := k1
    go_enter Tryd.func31, Tryd.ntmps31
    go_wp2_with (go_at_call 45; refine (HT.out _).mono ?_; rintro e w' ⟨rfl, rfl⟩)
    go_ret2
    exact ⟨rfl, rfl⟩
  all_goals
    have e1 : dln now t = (0, 2) := by simp [dln, h1, h2, h3]
    rw [e1]
    clear e1
    first
    | (have HT : Hid (∀ W, Calls Tryd.prog 45 #[.int .i64 t] W fun e w' => e = .returned (.bool false) ∧ W = w') := fun W => (Bool.not_eq_true _ |>.mp h3) ▸ rtimed_any t W
       clear h3
       go_enter Tryd.func31, Tryd.ntmps31
       go_wp2_with (go_at_call 45; refine (HT.out _).mono ?_; rintro e w' ⟨rfl, rfl⟩)
       go_ret2
       exact ⟨rfl, rfl⟩)
    | (clear h3
       go_enter Tryd.func31, Tryd.ntmps31
       go_wp2_with fail
       go_ret2
       exact ⟨rfl, rfl⟩)

set_option maxHeartbeats 1000000 in
theorem rScaled_any (t a b l : Int) (w : World) :
    Calls Tryd.prog 29 #[.int .i64 t, .agg #[.int .i64 a, .int .i64 b], .int .i64 l] w fun e w' => e = .returned (.tuple #[.int .i64 (sclE t a b l).1, .int .i64 (sclE t a b l).2]) ∧ Below w.heap.size w w' := by
  have HT : Hid (∀ W, Calls Tryd.prog 45 #[.int .i64 t] W fun e w' => e = .returned (.bool (tmd t)) ∧ W = w') := fun W => rtimed_any t W
  have HL : Hid (∀ W, Calls Tryd.prog 32 #[.agg #[.int .i64 a, .int .i64 b]] W fun e w' => e = .returned (.bool (rsc a b)) ∧ Below W.heap.size W w') := fun W => rrightScale_any a b W
  by_cases h1 : tmd t = true
  rotate_left
  · have e1 : sclE t a b l = (0, 2) := by simp [sclE, h1]
    rw [e1]
    rw [Bool.not_eq_true _ |>.mp h1] at HT
    clear e1 h1
    go_enter Tryd.func29, Tryd.ntmps29
    go_wp2_with (go_at_call 45; refine (HT.out _).mono ?_; rintro e w' ⟨rfl, rfl⟩)
    go_ret2
    exact ⟨rfl, (Below.refl _ _).alloc (Nat.le_refl _) _⟩
  by_cases h2 : rsc a b = true
  rotate_left
  · have e1 : sclE t a b l = (0, 2) := by simp [sclE, lvs, h2]
    rw [e1]
    rw [h1] at HT
    rw [Bool.not_eq_true _ |>.mp h2] at HL
    clear e1 h1 h2
    go_enter Tryd.func29, Tryd.ntmps29
    go_wp2_with (go_at_call 45; refine (HT.out _).mono ?_; rintro e w' ⟨rfl, rfl⟩)
    refine (HL.out _).mono ?_
    rintro e w1 ⟨rfl, hb⟩
    obtain ⟨hc, hf⟩ := bcell hb
    go_wp2_with fail
    go_ret2
    exact ⟨rfl, bthen ((Below.refl _ _).alloc (Nat.le_refl _) _) hb⟩
  by_cases h3 : 0 ≤ l
  rotate_left
  · have e1 : sclE t a b l = (0, 2) := by simp [sclE, lvs, h3]
    rw [e1]
    rw [h1] at HT
    rw [h2] at HL
    clear e1 h1 h2
    go_enter Tryd.func29, Tryd.ntmps29
    go_wp2_with (go_at_call 45; refine (HT.out _).mono ?_; rintro e w' ⟨rfl, rfl⟩)
    refine (HL.out _).mono ?_
    rintro e w1 ⟨rfl, hb⟩
    obtain ⟨hc, hf⟩ := bcell hb
    go_wp2_with fail
    go_ret2
    exact ⟨rfl, bthen ((Below.refl _ _).alloc (Nat.le_refl _) _) hb⟩
  by_cases h4 : l < b
  rotate_left
  · have e1 : sclE t a b l = (0, 2) := by simp [sclE, lvs, h4]
    rw [e1]
    rw [h1] at HT
    rw [h2] at HL
    clear e1 h1 h2
    go_enter Tryd.func29, Tryd.ntmps29
    go_wp2_with (go_at_call 45; refine (HT.out _).mono ?_; rintro e w' ⟨rfl, rfl⟩)
    refine (HL.out _).mono ?_
    rintro e w1 ⟨rfl, hb⟩
    obtain ⟨hc, hf⟩ := bcell hb
    go_wp2_with fail
    go_ret2
    exact ⟨rfl, bthen ((Below.refl _ _).alloc (Nat.le_refl _) _) hb⟩
  have e1 : sclE t a b l = (scl t a b l, 0) := by simp [sclE, lvs, h1, h2, h3, h4]
  rw [e1]
  obtain ⟨k1, k2⟩ := tmd_true h1
  obtain ⟨k3, k4, k5⟩ := rsc_true h2
  rw [h1] at HT
  rw [h2] at HL
  clear e1 h1 h2
  have h4' : ¬ b ≤ l := by omega
  have h3' : ¬ l < 0 := by omega
  by_cases h5 : l ≤ a
  · have e1 : scl t a b l = t := if_pos h5
    rw [e1]
    clear e1
    go_enter Tryd.func29, Tryd.ntmps29
    go_wp2_with (go_at_call 45; refine (HT.out _).mono ?_; rintro e w' ⟨rfl, rfl⟩)
    refine (HL.out _).mono ?_
    rintro e w1 ⟨rfl, hb⟩
    obtain ⟨hc, hf⟩ := bcell hb
    go_wp2_with fail
    go_ret2
    exact ⟨rfl, bthen ((Below.refl _ _).alloc (Nat.le_refl _) _) hb⟩
  · have e1 : scl t a b l = max 1 (t * (b - l) / (b - a)) := if_neg h5
    rw [e1]
    clear e1
    have q1 : 0 ≤ t * (b - l) := Int.mul_nonneg (by omega) (by omega)
    have q2 : t * (b - l) ≤ 16777215 * 1048576 := Int.mul_le_mul (by omega) (by omega) (by omega) (by omega)
    have HO : Hid (∀ W, Calls Tryd.prog 46 #[.int .i64 (t * (b - l)), .int .i64 (b - a)] W fun e w' => e = .returned (.int .i64 (t * (b - l) / (b - a))) ∧ W = w') := fun W => over_any _ _ W q1 (by omega) (by omega) (by omega)
    have q3 : 0 ≤ t * (b - l) / (b - a) := Int.ediv_nonneg q1 (by omega)
    generalize t * (b - l) / (b - a) = Q at *
    by_cases hQ : Q = 0
    · subst hQ
      go_enter Tryd.func29, Tryd.ntmps29
      go_wp2_with (go_at_call 45; refine (HT.out _).mono ?_; rintro e w' ⟨rfl, rfl⟩)
      refine (HL.out _).mono ?_
      rintro e w1 ⟨rfl, hb⟩
      obtain ⟨hc, hf⟩ := bcell hb
      go_wp2_with (go_at_call 46; ((with_reducible refine (HO.out _).mono ?_); rintro e w' ⟨rfl, rfl⟩))
      go_ret2
      exact ⟨rfl, bthen ((Below.refl _ _).alloc (Nat.le_refl _) _) hb⟩
    · have hQ' : (Q == 0) = false := by simpa using hQ
      have hM : max 1 Q = Q := by omega
      rw [hM]
      clear hM
      go_enter Tryd.func29, Tryd.ntmps29
      go_wp2_with (go_at_call 45; refine (HT.out _).mono ?_; rintro e w' ⟨rfl, rfl⟩)
      refine (HL.out _).mono ?_
      rintro e w1 ⟨rfl, hb⟩
      obtain ⟨hc, hf⟩ := bcell hb
      go_wp2_with (go_at_call 46; ((with_reducible refine (HO.out _).mono ?_); rintro e w' ⟨rfl, rfl⟩))
      go_ret2
      exact ⟨rfl, bthen ((Below.refl _ _).alloc (Nat.le_refl _) _) hb⟩

set_option maxHeartbeats 1000000 in
theorem rmost_any (t a b l : Int) (w : World) :
    Calls Tryd.prog 30 #[.int .i64 t, .agg #[.int .i64 a, .int .i64 b], .int .i64 l] w fun e w' => e = .returned (.tuple #[.int .i64 (mstE t a b l).1, .int .i64 (mstE t a b l).2]) ∧ Below w.heap.size w w' := by
  have HT : Hid (∀ W, Calls Tryd.prog 45 #[.int .i64 t] W fun e w' => e = .returned (.bool (tmd t)) ∧ W = w') := fun W => rtimed_any t W
  have HL : Hid (∀ W, Calls Tryd.prog 32 #[.agg #[.int .i64 a, .int .i64 b]] W fun e w' => e = .returned (.bool (rsc a b)) ∧ Below W.heap.size W w') := fun W => rrightScale_any a b W
  by_cases h1 : tmd t = true
  rotate_left
  · have e1 : mstE t a b l = (0, 2) := by simp [mstE, mok, h1]
    rw [e1]
    rw [Bool.not_eq_true _ |>.mp h1] at HT
    clear e1 h1
    go_enter Tryd.func30, Tryd.ntmps30
    go_wp2_with (go_at_call 45; refine (HT.out _).mono ?_; rintro e w' ⟨rfl, rfl⟩)
    go_ret2
    exact ⟨rfl, (Below.refl _ _).alloc (Nat.le_refl _) _⟩
  by_cases h2 : rsc a b = true
  rotate_left
  · have e1 : mstE t a b l = (0, 2) := by simp [mstE, mok, h2]
    rw [e1]
    rw [h1] at HT
    rw [Bool.not_eq_true _ |>.mp h2] at HL
    clear e1 h1 h2
    go_enter Tryd.func30, Tryd.ntmps30
    go_wp2_with (go_at_call 45; refine (HT.out _).mono ?_; rintro e w' ⟨rfl, rfl⟩)
    refine (HL.out _).mono ?_
    rintro e w1 ⟨rfl, hb⟩
    obtain ⟨hc, hf⟩ := bcell hb
    go_wp2_with fail
    go_ret2
    exact ⟨rfl, bthen ((Below.refl _ _).alloc (Nat.le_refl _) _) hb⟩
  by_cases h3 : 1 ≤ l
  rotate_left
  · have e1 : mstE t a b l = (0, 2) := by simp [mstE, mok, h3]
    rw [e1]
    rw [h1] at HT
    rw [h2] at HL
    clear e1 h1 h2
    go_enter Tryd.func30, Tryd.ntmps30
    go_wp2_with (go_at_call 45; refine (HT.out _).mono ?_; rintro e w' ⟨rfl, rfl⟩)
    refine (HL.out _).mono ?_
    rintro e w1 ⟨rfl, hb⟩
    obtain ⟨hc, hf⟩ := bcell hb
    go_wp2_with fail
    go_ret2
    exact ⟨rfl, bthen ((Below.refl _ _).alloc (Nat.le_refl _) _) hb⟩
  by_cases h4 : l ≤ t
  rotate_left
  · have e1 : mstE t a b l = (0, 2) := by simp [mstE, mok, h4]
    rw [e1]
    rw [h1] at HT
    rw [h2] at HL
    clear e1 h1 h2
    have h3' : ¬ l < 1 := by omega
    go_enter Tryd.func30, Tryd.ntmps30
    go_wp2_with (go_at_call 45; refine (HT.out _).mono ?_; rintro e w' ⟨rfl, rfl⟩)
    refine (HL.out _).mono ?_
    rintro e w1 ⟨rfl, hb⟩
    obtain ⟨hc, hf⟩ := bcell hb
    go_wp2_with fail
    go_ret2
    exact ⟨rfl, bthen ((Below.refl _ _).alloc (Nat.le_refl _) _) hb⟩
  have e1 : mstE t a b l = (mst t a b l, 0) := by simp [mstE, mok, h1, h2, h3, h4]
  rw [e1]
  obtain ⟨k1, k2⟩ := tmd_true h1
  obtain ⟨k3, k4, k5⟩ := rsc_true h2
  rw [h1] at HT
  rw [h2] at HL
  clear e1 h1 h2
  have h4' : ¬ t < l := by omega
  have h3' : ¬ l < 1 := by omega
  by_cases h5 : l = 1
  · have e1 : mst t a b l = b - 1 := if_pos h5
    rw [e1]
    subst h5
    clear e1
    go_enter Tryd.func30, Tryd.ntmps30
    go_wp2_with (go_at_call 45; refine (HT.out _).mono ?_; rintro e w' ⟨rfl, rfl⟩)
    refine (HL.out _).mono ?_
    rintro e w1 ⟨rfl, hb⟩
    obtain ⟨hc, hf⟩ := bcell hb
    go_wp2_with fail
    go_ret2
    exact ⟨rfl, bthen ((Below.refl _ _).alloc (Nat.le_refl _) _) hb⟩
  · have mf := mst_found t a b l k1 k3 k4 h3 h4
    have m1 := mf.2.1
    have m2 := mf.2.2
    clear mf
    have e1 : mst t a b l = b - (l * (b - a) + t - 1) / t := if_neg h5
    rw [e1] at m1 m2 ⊢
    clear e1
    have h5' : (l == 1) = false := by simpa using h5
    have q1 : 0 ≤ l * (b - a) := Int.mul_nonneg (by omega) (by omega)
    have q2 : l * (b - a) ≤ 16777215 * 1048576 := Int.mul_le_mul (by omega) (by omega) (by omega) (by omega)
    have HO : Hid (∀ W, Calls Tryd.prog 46 #[.int .i64 (l * (b - a) + t - 1), .int .i64 t] W fun e w' => e = .returned (.int .i64 ((l * (b - a) + t - 1) / t)) ∧ W = w') := fun W => over_any _ _ W (by omega) (by omega) (by omega) (by omega)
    generalize (l * (b - a) + t - 1) / t = Q at *
    clear h5
    go_enter Tryd.func30, Tryd.ntmps30
    go_wp2_with (go_at_call 45; refine (HT.out _).mono ?_; rintro e w' ⟨rfl, rfl⟩)
    refine (HL.out _).mono ?_
    rintro e w1 ⟨rfl, hb⟩
    obtain ⟨hc, hf⟩ := bcell hb
    go_wp2_with (go_at_call 46; ((with_reducible refine (HO.out _).mono ?_); rintro e w' ⟨rfl, rfl⟩))
    go_ret2
    exact ⟨rfl, bthen ((Below.refl _ _).alloc (Nat.le_refl _) _) hb⟩

end Go.Proofs.YtkcgijkccpiljaaDoor
