/-
  The walk of WindowAfter: of two numbers that are not equal, and not 2^31 apart, just one is after the other one.
-/
import Derived.Test.YtchephpmkommfaaAwake
namespace Go.Proofs.Ytchephpmkommfaa
open Go.RowKit
set_option linter.unusedVariables false
set_option linter.unusedSimpArgs false

theorem aft_cases (a b : Int) (ha : 0 ≤ a ∧ a ≤ 4294967295) (hb : 0 ≤ b ∧ b ≤ 4294967295) (h1 : a ≠ b) (h2 : (a - b) % 4294967296 ≠ 2147483648) : aft b a = !aft a b := by
  unfold aft lss
  by_cases h : (a - b) % 4294967296 < 2147483648
  · have e1 : decide (0 < (a - b) % 4294967296) = true := by simp; omega
    have e2 : decide ((a - b) % 4294967296 < 2147483648) = true := by simpa using h
    have e3 : decide ((b - a) % 4294967296 < 2147483648) = false := by simp; omega
    rw [e1, e2, e3]; simp
  · have e1 : decide (0 < (b - a) % 4294967296) = true := by simp; omega
    have e2 : decide ((b - a) % 4294967296 < 2147483648) = true := by simp; omega
    have e3 : decide ((a - b) % 4294967296 < 2147483648) = false := by simpa using h
    rw [e1, e2, e3]; simp
theorem aft_same (a : Int) : aft a a = false := by simp [aft, lss]
theorem aft_half (a b : Int) (h : (a - b) % 4294967296 = 2147483648) : aft a b = false ∧ aft b a = false := by
  unfold aft lss
  have e1 : decide ((a - b) % 4294967296 < 2147483648) = false := by simp; omega
  have e2 : decide ((b - a) % 4294967296 < 2147483648) = false := by simp; omega
  rw [e1, e2]; simp
theorem aft_more (a m : Int) (h1 : 1 ≤ m) (h2 : m ≤ 2147483647) : aft ((a + m) % 4294967296) a = true ∧ aft a ((a + m) % 4294967296) = false := by
  unfold aft lss
  have e1 : decide (0 < ((a + m) % 4294967296 - a) % 4294967296) = true := by simp; omega
  have e2 : decide (((a + m) % 4294967296 - a) % 4294967296 < 2147483648) = true := by simp; omega
  have e3 : decide ((a - (a + m) % 4294967296) % 4294967296 < 2147483648) = false := by simp; omega
  rw [e1, e2, e3]; simp
theorem aft_moved (a b c : Int) : aft ((a + c) % 4294967296) ((b + c) % 4294967296) = aft a b := by
  unfold aft
  have e : lss ((a + c) % 4294967296) ((b + c) % 4294967296) = lss a b := by unfold lss; omega
  rw [e]

set_option maxRecDepth 100000 in
set_option maxHeartbeats 4000000 in
theorem after_same (a c : Int) (w : World) (ha : 0 ≤ a ∧ a ≤ 4294967295) (hc : 0 ≤ c ∧ c ≤ 4294967295)  :
    Calls Try.prog 3 #[.int .u32 a, .int .u32 a, .int .u32 c] w fun e w' => e = .returned (.bool true) ∧ Below w.heap.size w w' := by
  have HM := Lib.hid (aft_more a (c % 2147483647 + 1) (by omega) (by omega))
  go_enter Try.func3, Try.ntmps3
  go_wp2_with fail
  refine (awake_any _).mono ?_
  rintro e w1 ⟨rfl, hb1⟩
  go_wp2_with fail
  refine (after_is a a false _ (by omega) (by omega) (aft_same a)).mono ?_
  rintro e w' ⟨rfl, rfl⟩
  go_wp2_with fail
  refine (after_is a a false _ (by omega) (by omega) (aft_same a)).mono ?_
  rintro e w' ⟨rfl, rfl⟩
  go_wp2_with fail
  refine (after_is a a false _ (by omega) (by omega) (aft_same a)).mono ?_
  rintro e w' ⟨rfl, rfl⟩
  go_wp2_with fail
  refine (after_is ((a + (c % 2147483647 + 1)) % 4294967296) a true _ (by omega) (by omega) HM.out.1).mono ?_
  rintro e w' ⟨rfl, rfl⟩
  go_wp2_with fail
  refine (after_is a ((a + (c % 2147483647 + 1)) % 4294967296) false _ (by omega) (by omega) HM.out.2).mono ?_
  rintro e w' ⟨rfl, rfl⟩
  go_wp2_with fail
  refine (after_is ((a + c) % 4294967296) ((a + c) % 4294967296) false _ (by omega) (by omega) ((aft_moved _ _ _).trans (aft_same a))).mono ?_
  rintro e w' ⟨rfl, rfl⟩
  go_wp2_with fail
  go_ret
  exact ⟨by first | rfl | simp, hb1⟩
set_option maxRecDepth 100000 in
set_option maxHeartbeats 4000000 in
theorem after_half (a b c : Int) (w : World) (ha : 0 ≤ a ∧ a ≤ 4294967295) (hb : 0 ≤ b ∧ b ≤ 4294967295) (hc : 0 ≤ c ∧ c ≤ 4294967295) (h1 : (a == b) = false) (h2 : ((a - b) % 4294967296 == 2147483648) = true) (hx : Hid (aft a b = false)) (hy : Hid (aft b a = false)) :
    Calls Try.prog 3 #[.int .u32 a, .int .u32 b, .int .u32 c] w fun e w' => e = .returned (.bool true) ∧ Below w.heap.size w w' := by
  have HM := Lib.hid (aft_more a (c % 2147483647 + 1) (by omega) (by omega))
  go_enter Try.func3, Try.ntmps3
  go_wp2_with fail
  refine (awake_any _).mono ?_
  rintro e w1 ⟨rfl, hb1⟩
  go_wp2_with fail
  refine (after_is a b false _ (by omega) (by omega) hx.out).mono ?_
  rintro e w' ⟨rfl, rfl⟩
  go_wp2_with fail
  refine (after_is b a false _ (by omega) (by omega) hy.out).mono ?_
  rintro e w' ⟨rfl, rfl⟩
  go_wp2_with fail
  refine (after_is a a false _ (by omega) (by omega) (aft_same a)).mono ?_
  rintro e w' ⟨rfl, rfl⟩
  go_wp2_with fail
  refine (after_is ((a + (c % 2147483647 + 1)) % 4294967296) a true _ (by omega) (by omega) HM.out.1).mono ?_
  rintro e w' ⟨rfl, rfl⟩
  go_wp2_with fail
  refine (after_is a ((a + (c % 2147483647 + 1)) % 4294967296) false _ (by omega) (by omega) HM.out.2).mono ?_
  rintro e w' ⟨rfl, rfl⟩
  go_wp2_with fail
  refine (after_is ((a + c) % 4294967296) ((b + c) % 4294967296) false _ (by omega) (by omega) ((aft_moved _ _ _).trans hx.out)).mono ?_
  rintro e w' ⟨rfl, rfl⟩
  go_wp2_with fail
  go_ret
  exact ⟨by first | rfl | simp, hb1⟩
set_option maxRecDepth 100000 in
set_option maxHeartbeats 4000000 in
theorem after_tf (a b c : Int) (w : World) (ha : 0 ≤ a ∧ a ≤ 4294967295) (hb : 0 ≤ b ∧ b ≤ 4294967295) (hc : 0 ≤ c ∧ c ≤ 4294967295) (h1 : (a == b) = false) (h2 : ((a - b) % 4294967296 == 2147483648) = false) (hx : Hid (aft a b = true)) (hy : Hid (aft b a = false)) :
    Calls Try.prog 3 #[.int .u32 a, .int .u32 b, .int .u32 c] w fun e w' => e = .returned (.bool true) ∧ Below w.heap.size w w' := by
  have HM := Lib.hid (aft_more a (c % 2147483647 + 1) (by omega) (by omega))
  go_enter Try.func3, Try.ntmps3
  go_wp2_with fail
  refine (awake_any _).mono ?_
  rintro e w1 ⟨rfl, hb1⟩
  go_wp2_with fail
  refine (after_is a b true _ (by omega) (by omega) hx.out).mono ?_
  rintro e w' ⟨rfl, rfl⟩
  go_wp2_with fail
  refine (after_is b a false _ (by omega) (by omega) hy.out).mono ?_
  rintro e w' ⟨rfl, rfl⟩
  go_wp2_with fail
  refine (after_is a a false _ (by omega) (by omega) (aft_same a)).mono ?_
  rintro e w' ⟨rfl, rfl⟩
  go_wp2_with fail
  refine (after_is ((a + (c % 2147483647 + 1)) % 4294967296) a true _ (by omega) (by omega) HM.out.1).mono ?_
  rintro e w' ⟨rfl, rfl⟩
  go_wp2_with fail
  refine (after_is a ((a + (c % 2147483647 + 1)) % 4294967296) false _ (by omega) (by omega) HM.out.2).mono ?_
  rintro e w' ⟨rfl, rfl⟩
  go_wp2_with fail
  refine (after_is ((a + c) % 4294967296) ((b + c) % 4294967296) true _ (by omega) (by omega) ((aft_moved _ _ _).trans hx.out)).mono ?_
  rintro e w' ⟨rfl, rfl⟩
  go_wp2_with fail
  go_ret
  exact ⟨by first | rfl | simp, hb1⟩
set_option maxRecDepth 100000 in
set_option maxHeartbeats 4000000 in
theorem after_ft (a b c : Int) (w : World) (ha : 0 ≤ a ∧ a ≤ 4294967295) (hb : 0 ≤ b ∧ b ≤ 4294967295) (hc : 0 ≤ c ∧ c ≤ 4294967295) (h1 : (a == b) = false) (h2 : ((a - b) % 4294967296 == 2147483648) = false) (hx : Hid (aft a b = false)) (hy : Hid (aft b a = true)) :
    Calls Try.prog 3 #[.int .u32 a, .int .u32 b, .int .u32 c] w fun e w' => e = .returned (.bool true) ∧ Below w.heap.size w w' := by
  have HM := Lib.hid (aft_more a (c % 2147483647 + 1) (by omega) (by omega))
  go_enter Try.func3, Try.ntmps3
  go_wp2_with fail
  refine (awake_any _).mono ?_
  rintro e w1 ⟨rfl, hb1⟩
  go_wp2_with fail
  refine (after_is a b false _ (by omega) (by omega) hx.out).mono ?_
  rintro e w' ⟨rfl, rfl⟩
  go_wp2_with fail
  refine (after_is b a true _ (by omega) (by omega) hy.out).mono ?_
  rintro e w' ⟨rfl, rfl⟩
  go_wp2_with fail
  refine (after_is a a false _ (by omega) (by omega) (aft_same a)).mono ?_
  rintro e w' ⟨rfl, rfl⟩
  go_wp2_with fail
  refine (after_is ((a + (c % 2147483647 + 1)) % 4294967296) a true _ (by omega) (by omega) HM.out.1).mono ?_
  rintro e w' ⟨rfl, rfl⟩
  go_wp2_with fail
  refine (after_is a ((a + (c % 2147483647 + 1)) % 4294967296) false _ (by omega) (by omega) HM.out.2).mono ?_
  rintro e w' ⟨rfl, rfl⟩
  go_wp2_with fail
  refine (after_is ((a + c) % 4294967296) ((b + c) % 4294967296) false _ (by omega) (by omega) ((aft_moved _ _ _).trans hx.out)).mono ?_
  rintro e w' ⟨rfl, rfl⟩
  go_wp2_with fail
  go_ret
  exact ⟨by first | rfl | simp, hb1⟩

theorem windowAfter_walk (a b c : Int) (w : World) (ha : 0 ≤ a ∧ a ≤ 4294967295) (hb : 0 ≤ b ∧ b ≤ 4294967295) (hc : 0 ≤ c ∧ c ≤ 4294967295) :
    Calls Try.prog 3 #[.int .u32 a, .int .u32 b, .int .u32 c] w fun e w' => e = .returned (.bool true) ∧ Below w.heap.size w w' := by
  by_cases h1 : a = b
  · subst h1
    exact after_same a c w ha hc
  · by_cases h2 : (a - b) % 4294967296 = 2147483648
    · exact after_half a b c w ha hb hc (by simpa using h1) (by simpa using h2) (aft_half a b h2).1 (aft_half a b h2).2
    · have hk := aft_cases a b ha hb h1 h2
      cases hx : aft a b
      · rw [hx] at hk
        exact after_ft a b c w ha hb hc (by simpa using h1) (by simpa using h2) hx hk
      · rw [hx] at hk
        exact after_tf a b c w ha hb hc (by simpa using h1) (by simpa using h2) hx hk

end Go.Proofs.Ytchephpmkommfaa
