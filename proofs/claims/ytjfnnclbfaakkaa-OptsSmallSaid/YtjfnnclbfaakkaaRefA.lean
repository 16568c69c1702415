/-
  The contracts of the reference's pointer, routes, excludes and Right. Conditions: the ranges of the numbers; the option lies.
-/
import Derived.Test.YtjfnnclbfaakkaaRecP
import Derived.Deep.LoopGhost
namespace Go.Proofs.Ytjfnnclbfaakkaa
open Go.RowKit
set_option linter.unusedVariables false
set_option linter.unusedSimpArgs false

/-- Is a number a pointer to one of some entries? -/
def ptrS (p f m s : Int) : Bool := decide (f ≤ p) && (p - f) % s == 0 && decide (p ≤ f + m * s)
theorem ptrS_hit {p f m s k : Int} (hs : s = 4 ∨ s = 8) (h0 : 0 ≤ k) (hk : k ≤ m) (hp : p = f + k * s) : ptrS p f m s = true := by
  unfold ptrS
  subst hp
  rcases hs with rfl | rfl
  · simp only [Bool.and_eq_true, decide_eq_true_eq, beq_iff_eq]
    omega
  · simp only [Bool.and_eq_true, decide_eq_true_eq, beq_iff_eq]
    omega
theorem ptrS_miss {p f m s : Int} (hs : s = 4 ∨ s = 8) (h : ∀ k : Int, 0 ≤ k → k ≤ m → p ≠ f + k * s) : ptrS p f m s = false := by
  cases hq : ptrS p f m s with
  | false => rfl
  | true =>
    unfold ptrS at hq
    simp only [Bool.and_eq_true, decide_eq_true_eq, beq_iff_eq] at hq
    obtain ⟨⟨h1, h2⟩, h3⟩ := hq
    rcases hs with rfl | rfl
    · exact absurd (by omega : p = f + (p - f) / 4 * 4) (h ((p - f) / 4) (by omega) (by omega))
    · exact absurd (by omega : p = f + (p - f) / 8 * 8) (h ((p - f) / 8) (by omega) (by omega))

set_option maxRecDepth 100000 in
theorem pointer_any (p f m s : Int) (w : World) (hs : s = 4 ∨ s = 8) (hp : 0 ≤ p ∧ p ≤ 255) (hf : 0 ≤ f ∧ f ≤ 5) (hm : 0 ≤ m ∧ m ≤ 2 ^ 40) :
    Calls Try.prog 60 #[.int .i64 p, .int .i64 f, .int .i64 m, .int .i64 s] w fun e w' => e = .returned (.bool (ptrS p f m s)) ∧ w' = w := by
  obtain ⟨r, hr⟩ : ∃ r, ptrS p f m s = r := ⟨_, rfl⟩
  have HR := Lib.hid hr
  have HS := Lib.hid hs
  rw [hr]
  clear hr hs
  go_enter Try.func60, Try.ntmps60
  go_wp2_with fail
  go_loopw [9] (fun v wx => ∃ k : Nat, (k : Int) ≤ m + 1 ∧ v = .int .i64 k ∧ (∀ j : Int, 0 ≤ j → j < k → p ≠ f + j * s) ∧ wx = w) (fun v _ => (m + 1 - intOf v).toNat)
  case atStart => exact ⟨0, by omega, rfl, fun j h1 h2 => by omega, rfl⟩
  case round =>
    obtain ⟨k, hk, rfl, hmiss, hwr⟩ := hrel
    subst hwr
    have HM := Lib.hid hmiss
    clear hmiss
    by_cases hkm : (k : Int) ≤ m
    · have t1 : decide ((k : Int) ≤ m) = true := by simpa using hkm
      obtain ⟨q, hq⟩ : ∃ q, (k : Int) * s = q := ⟨_, rfl⟩
      have hqr : 0 ≤ q ∧ q ≤ 2 ^ 44 := by
        rw [← hq]
        rcases HS.out with rfl | rfl <;> omega
      have hw1 : IntKind.i64.wrap ((k : Int) * s) = q := by rw [hq]; exact IntWalk.i64_in _ (by omega)
      have hw2 : IntKind.i64.wrap (f + q) = f + q := IntWalk.i64_in _ (by omega)
      have HQ := Lib.hid hq
      clear hq
      by_cases he : p = f + q
      · have e1 : (p == f + q) = true := by simpa using he
        have hres : r = true := by rw [← HR.out]; exact ptrS_hit HS.out (by omega) hkm (by rw [HQ.out]; exact he)
        subst hres
        clear he
        go_wp2_with fail
        go_ret
        exact ⟨rfl, by trivial⟩
      · have e1 : (p == f + q) = false := by simpa using he
        have HE := Lib.hid he
        clear he
        go_wp2_with fail
        exact ⟨⟨k + 1, by omega, by go_num, fun j h1 h2 => by
          by_cases hjk : j < k
          · exact HM.out j h1 hjk
          · have : j = k := by omega
            subst this
            rw [HQ.out]
            exact HE.out, by trivial⟩, by simp [intOf]; omega⟩
    · have t1 : decide ((k : Int) ≤ m) = false := by simp; omega
      have hres : r = false := by rw [← HR.out]; exact ptrS_miss HS.out fun j h1 h2 => HM.out j h1 (by omega)
      subst hres
      go_wp2_with fail
      go_ret
      exact ⟨rfl, by trivial⟩

/-- Has a kind addresses? -/
def rtB (k : Int) : Bool := k == 7 || k == 131 || k == 137
theorem routes_any (k : Int) (w : World) : Calls Try.prog 58 #[.int .u8 k] w fun e w' => e = .returned (.bool (rtB k)) ∧ w' = w := by
  unfold rtB
  by_cases h1 : k = 7
  · subst h1
    go_enter Try.func58, Try.ntmps58
    go_wp2_with fail
    go_ret
    exact ⟨rfl, rfl⟩
  have b1 : (k == 7) = false := by simpa using h1
  by_cases h3 : k = 131
  · subst h3
    go_enter Try.func58, Try.ntmps58
    go_wp2_with fail
    go_ret
    exact ⟨rfl, rfl⟩
  have b3 : (k == 131) = false := by simpa using h3
  obtain ⟨q, hq⟩ : ∃ q, (k == 137) = q := ⟨_, rfl⟩
  rw [b1, b3, hq]
  go_enter Try.func58, Try.ntmps58
  go_wp2_with fail
  go_ret
  exact ⟨rfl, rfl⟩

/-- Do two kinds exclude one another? -/
def exB (a b : Int) : Bool := if a = 7 ∨ a = 68 then a == b else (a == 131 || a == 137) && (b == 131 || b == 137)
theorem exB_grp (a b : Int) : exB a b = (decide (0 < grp b) && grp a == grp b) := by
  unfold exB grp
  by_cases a7 : a = 7
  · subst a7
    by_cases b7 : b = 7
    · subst b7; rfl
    · have e : ((7 : Int) == b) = false := by simp; omega
      rw [if_pos (.inl rfl), e]
      rw [if_neg b7]
      by_cases b68 : b = 68
      · subst b68; rfl
      · rw [if_neg b68]
        by_cases b3 : b = 131 ∨ b = 137
        · rw [if_pos b3]; rfl
        · rw [if_neg b3]; rfl
  · by_cases a68 : a = 68
    · subst a68
      by_cases b7 : b = 7
      · subst b7; rfl
      · by_cases b68 : b = 68
        · subst b68; rfl
        · have e : ((68 : Int) == b) = false := by simp; omega
          rw [if_pos (.inr rfl), e, if_neg b7, if_neg b68]
          by_cases b3 : b = 131 ∨ b = 137
          · rw [if_pos b3]; rfl
          · rw [if_neg b3]; rfl
    · rw [if_neg (by omega), if_neg a7, if_neg a68]
      by_cases a3 : a = 131 ∨ a = 137
      · have ea : (a == 131 || a == 137) = true := by simpa using a3
        rw [ea, if_pos a3, Bool.true_and]
        by_cases b7 : b = 7
        · subst b7; rfl
        · by_cases b68 : b = 68
          · subst b68; rfl
          · rw [if_neg b7, if_neg b68]
            by_cases b3 : b = 131 ∨ b = 137
            · have eb : (b == 131 || b == 137) = true := by simpa using b3
              rw [eb, if_pos b3]; rfl
            · have eb : (b == 131 || b == 137) = false := by simp; omega
              rw [eb, if_neg b3]; rfl
      · have ea : (a == 131 || a == 137) = false := by simp; omega
        rw [ea, if_neg a3, Bool.false_and]
        by_cases b7 : b = 7
        · subst b7; rfl
        · by_cases b68 : b = 68
          · subst b68; rfl
          · rw [if_neg b7, if_neg b68]
            by_cases b3 : b = 131 ∨ b = 137
            · rw [if_pos b3]; rfl
            · rw [if_neg b3]; rfl
theorem excludes_any (a b : Int) (w : World) : Calls Try.prog 64 #[.int .u8 a, .int .u8 b] w fun e w' => e = .returned (.bool (exB a b)) ∧ w' = w := by
  unfold exB
  obtain ⟨q1, hq1⟩ : ∃ q, (a == b) = q := ⟨_, rfl⟩
  obtain ⟨q2, hq2⟩ : ∃ q, (b == 131) = q := ⟨_, rfl⟩
  obtain ⟨q3, hq3⟩ : ∃ q, (b == 137) = q := ⟨_, rfl⟩
  by_cases h1 : a = 7
  · subst h1
    rw [if_pos (.inl rfl), hq1]
    go_enter Try.func64, Try.ntmps64
    go_wp2_with fail
    go_ret
    exact ⟨rfl, rfl⟩
  have b1 : (a == 7) = false := by simpa using h1
  by_cases h2 : a = 68
  · subst h2
    rw [if_pos (.inr rfl), hq1]
    go_enter Try.func64, Try.ntmps64
    go_wp2_with fail
    go_ret
    exact ⟨rfl, rfl⟩
  have b2 : (a == 68) = false := by simpa using h2
  rw [if_neg (by omega), hq2, hq3]
  by_cases h3 : a = 131
  · subst h3
    cases q2
    · go_enter Try.func64, Try.ntmps64
      go_wp2_with fail
      go_ret
      exact ⟨rfl, rfl⟩
    · go_enter Try.func64, Try.ntmps64
      go_wp2_with fail
      go_ret
      exact ⟨rfl, rfl⟩
  have b3 : (a == 131) = false := by simpa using h3
  by_cases h4 : a = 137
  · subst h4
    cases q2
    · go_enter Try.func64, Try.ntmps64
      go_wp2_with fail
      go_ret
      exact ⟨rfl, rfl⟩
    · go_enter Try.func64, Try.ntmps64
      go_wp2_with fail
      go_ret
      exact ⟨rfl, rfl⟩
  have b4 : (a == 137) = false := by simpa using h4
  rw [b3, b4]
  go_enter Try.func64, Try.ntmps64
  go_wp2_with fail
  go_ret
  exact ⟨rfl, rfl⟩

end Go.Proofs.Ytjfnnclbfaakkaa
