/-
  Plain laws of scaled timeouts: never longer with more flows, never shorter for a longer timeout; where the search of Most ends.
-/
import Derived.Test.YtkcgijkccpiljaaDoorMost
namespace Go.Proofs.YtkcgijkccpiljaaDoor
open Go.RowKit

theorem scl_mono (t a b l m : Int) (ht : 1 ≤ t) (ha : 0 ≤ a) (hb : a < b) (hl : 0 ≤ l) (hlm : l ≤ m) (hm : m < b) : scl t a b m ≤ scl t a b l := by
  by_cases h1 : l ≤ a
  · have e : scl t a b l = t := if_pos h1
    rw [e]
    exact (scl_range t a b m ht ha hb (by omega) hm).2
  · unfold scl
    rw [if_neg h1, if_neg (by omega)]
    have : t * (b - m) / (b - a) ≤ t * (b - l) / (b - a) := Int.ediv_le_ediv (by omega) (Int.mul_le_mul_of_nonneg_left (by omega) (by omega))
    omega

theorem scl_longer (t u a b l : Int) (htu : t ≤ u) (hb : a < b) (hlb : l < b) : scl t a b l ≤ scl u a b l := by
  unfold scl
  split
  · exact htu
  · have : t * (b - l) / (b - a) ≤ u * (b - l) / (b - a) := Int.ediv_le_ediv (by omega) (Int.mul_le_mul_of_nonneg_right htu (by omega))
    omega

theorem found_one {p : Int → Bool} {n x y : Int} (hm : ∀ i j, 0 ≤ i → i ≤ j → j < n → p i = true → p j = true) (hx : Found p n x) (hy : Found p n y) : x = y := by
  rcases Int.lt_trichotomy x y with h | h | h
  · have := hm x (y - 1) hx.lo (by omega) (by have := hy.hi; omega) (hx.post (by have := hy.hi; omega))
    rw [hy.pre (by have := hx.lo; omega)] at this
    cases this
  · exact h
  · have := hm y (x - 1) hy.lo (by omega) (by have := hx.hi; omega) (hy.post (by have := hx.hi; omega))
    rw [hx.pre (by have := hy.lo; omega)] at this
    cases this

/-- With how many live flows a timeout is long enough. -/
def mst (t a b least : Int) : Int := if least = 1 then b - 1 else b - (least * (b - a) + t - 1) / t

theorem ceil_facts (t L : Int) (ht : 1 ≤ t) : L ≤ t * ((L + t - 1) / t) ∧ t * ((L + t - 1) / t - 1) < L := by
  have h1 := Int.mul_ediv_add_emod (L + t - 1) t
  have h2 := Int.emod_nonneg (L + t - 1) (show t ≠ 0 by omega)
  have h3 := Int.emod_lt_of_pos (L + t - 1) (show 0 < t by omega)
  rw [Int.mul_sub]
  omega

theorem mst_found (t a b least : Int) (ht : 1 ≤ t) (ha : 0 ≤ a) (hb : a < b) (h1 : 1 ≤ least) (h2 : least ≤ t) : Found (fun l => decide (scl t a b l < least)) b (mst t a b least + 1) ∧ a ≤ mst t a b least ∧ mst t a b least < b := by
  by_cases h : least = 1
  · have e : mst t a b least = b - 1 := if_pos h
    rw [e]
    refine ⟨⟨by omega, by omega, fun _ => ?_, fun h => absurd h (by omega)⟩, by omega, by omega⟩
    have := (scl_range t a b (b - 1) ht ha hb (by omega) (by omega)).1
    rw [show b - 1 + 1 - 1 = b - 1 by omega]
    simp
    omega
  · have e : mst t a b least = b - (least * (b - a) + t - 1) / t := if_neg h
    rw [e]
    obtain ⟨c1, c2⟩ := ceil_facts t (least * (b - a)) ht
    have hLD : least * (b - a) ≤ t * (b - a) := Int.mul_le_mul_of_nonneg_right h2 (by omega)
    have hpos : 0 < least * (b - a) := Int.mul_pos (by omega) (by omega)
    generalize hX : (least * (b - a) + t - 1) / t = X at *
    have hX1 : 1 ≤ X := by
      rcases Int.lt_or_le X 1 with hc | hc
      · have := Int.mul_le_mul_of_nonneg_left (show X ≤ 0 by omega) (show 0 ≤ t by omega)
        rw [Int.mul_zero] at this
        omega
      · exact hc
    have hX2 : X ≤ b - a := by
      rcases Int.lt_or_le (b - a) X with hc | hc
      · have := Int.mul_le_mul_of_nonneg_left (show b - a ≤ X - 1 by omega) (show 0 ≤ t by omega)
        omega
      · exact hc
    refine ⟨⟨by omega, by omega, fun _ => ?_, fun hlt => ?_⟩, by omega, by omega⟩
    · rw [show b - X + 1 - 1 = b - X by omega]
      have : least ≤ scl t a b (b - X) := by
        unfold scl
        split
        · exact h2
        · rw [show b - (b - X) = X by omega]
          have := (Int.le_ediv_iff_mul_le (show 0 < b - a by omega)).2 c1
          omega
      simp
      omega
    · have : scl t a b (b - X + 1) < least := by
        unfold scl
        rw [if_neg (by omega), show b - (b - X + 1) = X - 1 by omega]
        have := (Int.ediv_lt_iff_lt_mul (show 0 < b - a by omega)).2 c2
        omega
      simp
      omega

theorem scl_p_mono (t a b least : Int) (ht : 1 ≤ t) (ha : 0 ≤ a) (hb : a < b) : ∀ i j, 0 ≤ i → i ≤ j → j < b → (fun l => decide (scl t a b l < least)) i = true → (fun l => decide (scl t a b l < least)) j = true := by
  intro i j h0 h1 h2 h3
  simp only [decide_eq_true_eq] at h3 ⊢
  have := scl_mono t a b i j ht ha hb h0 h1 h2
  omega

/-- What Most returns. -/
def mstE (t a b least : Int) : Int × Int := if mok t a b least then (mst t a b least, 0) else (0, 2)

theorem mok_true {t a b least : Int} (h : mok t a b least = true) : (1 ≤ t ∧ t ≤ 16777215) ∧ (0 ≤ a ∧ a < b ∧ b ≤ 1048576) ∧ 1 ≤ least ∧ least ≤ t := by
  simp only [mok, Bool.and_eq_true, decide_eq_true_eq] at h
  exact ⟨tmd_true h.1.1.1, rsc_true h.1.1.2, h.1.2, h.2⟩

theorem most_any (t a b least : Int) (w : World) : Calls Tryd.prog 18 #[.int .i64 t, .agg #[.int .i64 a, .int .i64 b], .int .i64 least] w fun e w' => e = .returned (.tuple #[.int .i64 (mstE t a b least).1, .int .i64 (mstE t a b least).2]) ∧ Below w.heap.size w w' := by
  cases h : mok t a b least
  · have e : mstE t a b least = (0, 2) := by simp [mstE, h]
    rw [e]
    exact most_no t a b least w h
  · have e : mstE t a b least = (mst t a b least, 0) := by simp [mstE, h]
    rw [e]
    obtain ⟨k1, k2, k3, k4⟩ := mok_true h
    refine (most_yes t a b least w h).mono ?_
    rintro e w' ⟨x, hx, rfl, hb⟩
    obtain rfl := found_one (scl_p_mono t a b least k1.1 k2.1 k2.2.1) hx (mst_found t a b least k1.1 k2.1 k2.2.1 k3 k4).1
    exact ⟨by rw [show mst t a b least + 1 - 1 = mst t a b least by omega], hb⟩

end Go.Proofs.YtkcgijkccpiljaaDoor
