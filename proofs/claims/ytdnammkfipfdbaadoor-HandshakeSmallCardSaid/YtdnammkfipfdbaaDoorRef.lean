/-
  The contracts of the reference's Class, Step and Name: they return what the program's plain functions give.
-/
import Derived.Test.YtdnammkfipfdbaaDoorAwake
namespace Go.Proofs.YtdnammkfipfdbaaDoor
open Go.RowKit
set_option linter.unusedVariables false

/-- The class, by remainders. -/
def rcls (x : Int) : Int :=
  if x / 4 % 2 = 1 then 5 else if x / 2 % 2 = 1 ∧ x % 2 ≠ 1 ∧ x / 16 % 2 ≠ 1 then 1 else if x / 2 % 2 = 1 ∧ x % 2 ≠ 1 then 2 else if x / 16 % 2 = 1 ∧ x % 2 ≠ 1 ∧ x / 2 % 2 ≠ 1 then 3 else if x / 16 % 2 = 1 ∧ x % 2 = 1 ∧ x / 2 % 2 ≠ 1 then 4 else 0
theorem rcls_fin : ∀ x : Fin 256, cls (x.1 : Int) = rcls (x.1 : Int) := by decide +kernel
theorem rcls_eq (x : Int) (h : 0 ≤ x ∧ x ≤ 255) : cls x = rcls x := by
  have := rcls_fin ⟨x.toNat, by omega⟩
  simp only [Int.toNat_of_nonneg h.1] at this
  exact this

set_option maxHeartbeats 1000000 in
theorem rclass_any (x : Int) (w : World) (h : 0 ≤ x ∧ x ≤ 255) : Calls Tryd.prog 24 #[.int .u8 x] w fun e w' => e = .returned (.int .i64 (cls x)) ∧ w = w' := by
  rw [rcls_eq x h]
  obtain ⟨h0, h1⟩ := h
  by_cases a : x / 4 % 2 = 1
  · have a1 : (x / 4 % 2 == 1) = true := by simpa using a
    have e : rcls x = 5 := by rw [rcls, if_pos a]
    rw [e]
    clear e a
    go_enter Tryd.func24, Tryd.ntmps24
    go_wp2
    go_ret
    exact ⟨rfl, rfl⟩
  · have a1 : (x / 4 % 2 == 1) = false := by simpa using a
    by_cases b : x / 2 % 2 = 1
    all_goals by_cases c : x % 2 = 1
    all_goals by_cases d : x / 16 % 2 = 1
    all_goals
      obtain ⟨r, hr⟩ : ∃ r, rcls x = r := ⟨_, rfl⟩
      have hr1 := hr
      simp only [rcls, a, b, c, d, if_false, if_true, and_self, and_true, ne_eq, not_true_eq_false, not_false_eq_true, and_false] at hr1
      subst hr1
      rw [hr]
      clear hr a
      first | have b1 : (x / 2 % 2 == 1) = true := by simpa using b | have b1 : (x / 2 % 2 == 1) = false := by simpa using b
      first | have c1 : (x % 2 == 1) = true := by simpa using c | have c1 : (x % 2 == 1) = false := by simpa using c
      first | have d1 : (x / 16 % 2 == 1) = true := by simpa using d | have d1 : (x / 16 % 2 == 1) = false := by simpa using d
      clear b c d
      go_enter Tryd.func24, Tryd.ntmps24
      go_wp2
      go_ret
      exact ⟨rfl, rfl⟩

theorem rclass_is (x c : Int) (w : World) (h : 0 ≤ x ∧ x ≤ 255) (hc : cls x = c) : Calls Tryd.prog 24 #[.int .u8 x] w fun e w' => e = .returned (.int .i64 c) ∧ w = w' :=
  (rclass_any x w h).mono fun _ _ ⟨a, b⟩ => ⟨hc ▸ a, b⟩

set_option maxHeartbeats 1000000 in
theorem rstep_in (s d c f : Int) (w : World) (hs : 1 ≤ s ∧ s ≤ 8) (hd : 0 ≤ d ∧ d ≤ 1) (hc : 1 ≤ c ∧ c ≤ 5) (h : Hid (∀ W, Calls Tryd.prog 24 #[.int .u8 f] W fun e w' => e = .returned (.int .i64 c) ∧ W = w')) :
    Calls Tryd.prog 25 #[.int .u8 s, .int .u8 d, .int .u8 f] w fun e w' => e = .returned (.tuple #[.int .u8 (tb s c d), .bool (tb s c d != 0)]) ∧ w = w' := by
  have hs' : s = 1 ∨ s = 2 ∨ s = 3 ∨ s = 4 ∨ s = 5 ∨ s = 6 ∨ s = 7 ∨ s = 8 := by omega
  have hd' : d = 0 ∨ d = 1 := by omega
  have hc' : c = 1 ∨ c = 2 ∨ c = 3 ∨ c = 4 ∨ c = 5 := by omega
  clear hs hd hc
  rcases hc' with rfl | rfl | rfl | rfl | rfl
  all_goals rcases hs' with rfl | rfl | rfl | rfl | rfl | rfl | rfl | rfl
  all_goals rcases hd' with rfl | rfl
  all_goals
    go_enter Tryd.func25, Tryd.ntmps25
    go_wp2_with (go_at_call 24; refine (h.out _).mono ?_; rintro e w' ⟨rfl, rfl⟩)
    go_ret2
    exact ⟨rfl, rfl⟩

set_option maxHeartbeats 1000000 in
theorem rstep_out (s d c f : Int) (w : World) (hs : 0 ≤ s) (hd : 0 ≤ d) (hno : s < 1 ∨ 8 < s ∨ 1 < d ∨ c = 0) (h : Hid (∀ W, Calls Tryd.prog 24 #[.int .u8 f] W fun e w' => e = .returned (.int .i64 c) ∧ W = w')) :
    Calls Tryd.prog 25 #[.int .u8 s, .int .u8 d, .int .u8 f] w fun e w' => e = .returned (.tuple #[.int .u8 0, .bool false]) ∧ w = w' := by
  by_cases h1 : s < 1
  · clear hno
    go_enter Tryd.func25, Tryd.ntmps25
    go_wp2_with (go_at_call 24; refine (h.out _).mono ?_; rintro e w' ⟨rfl, rfl⟩)
    go_ret2
    exact ⟨rfl, rfl⟩
  · by_cases h2 : 8 < s
    · clear hno
      go_enter Tryd.func25, Tryd.ntmps25
      go_wp2_with (go_at_call 24; refine (h.out _).mono ?_; rintro e w' ⟨rfl, rfl⟩)
      go_ret2
      exact ⟨rfl, rfl⟩
    · by_cases h3 : 1 < d
      · clear hno
        go_enter Tryd.func25, Tryd.ntmps25
        go_wp2_with (go_at_call 24; refine (h.out _).mono ?_; rintro e w' ⟨rfl, rfl⟩)
        go_ret2
        exact ⟨rfl, rfl⟩
      · obtain rfl : c = 0 := by omega
        clear hno
        go_enter Tryd.func25, Tryd.ntmps25
        go_wp2_with (go_at_call 24; refine (h.out _).mono ?_; rintro e w' ⟨rfl, rfl⟩)
        go_ret2
        exact ⟨rfl, rfl⟩

theorem tb_zero : (∀ c : Fin 6, ∀ d : Fin 2, tb 0 c d = 0) ∧ ∀ s : Fin 9, ∀ d : Fin 2, tb s 0 d = 0 := by decide +kernel

theorem rstep_any (s d f : Int) (w : World) (hs : 0 ≤ s) (hd : 0 ≤ d) (hf : 0 ≤ f ∧ f ≤ 255) :
    Calls Tryd.prog 25 #[.int .u8 s, .int .u8 d, .int .u8 f] w fun e w' => e = .returned (.tuple #[.int .u8 (stp s d f), .bool (stp s d f != 0)]) ∧ w = w' := by
  have hr := cls_range f
  have hcl : ∀ W, Calls Tryd.prog 24 #[.int .u8 f] W fun e w' => e = .returned (.int .i64 (cls f)) ∧ W = w' := fun W => rclass_any f W hf
  by_cases h : s < 1 ∨ 8 < s ∨ 1 < d ∨ cls f = 0
  · have e : stp s d f = 0 := by
      by_cases ho : 8 < s ∨ 1 < d
      · rw [stp, if_pos ho]
      · rw [stp, if_neg ho]
        by_cases h0 : s < 1
        · obtain rfl : s = 0 := by omega
          have := tb_zero.1 ⟨(cls f).toNat, by omega⟩ ⟨d.toNat, by omega⟩
          simpa only [Int.toNat_of_nonneg hr.1, Int.toNat_of_nonneg hd] using this
        · have hc0 : cls f = 0 := by omega
          rw [hc0]
          have := tb_zero.2 ⟨s.toNat, by omega⟩ ⟨d.toNat, by omega⟩
          simpa only [Int.toNat_of_nonneg hs, Int.toNat_of_nonneg hd] using this
    rw [e]
    exact rstep_out s d (cls f) f w hs hd h hcl
  · have e : stp s d f = tb s (cls f) d := by rw [stp, if_neg (by omega)]
    rw [e]
    exact rstep_in s d (cls f) f w (by omega) (by omega) (by omega) hcl

end Go.Proofs.YtdnammkfipfdbaaDoor
