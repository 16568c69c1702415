/-
  The contracts of package timeout's functions on one timeout (timed, RightScale, lives, scaled, Scaled, Deadline) and of the laws' modulo and made: each call returns what the plain function gives; nothing that was there is written.
-/
import Derived.Test.YtkcgijkccpiljaaDoorRows
import Derived.Test.YtkcgijkccpiljaaDoorSlice
import Derived.WalkKit
import Derived.WalkSpells
import Derived.WalkLawsBesides
import Derived.Deep.QuietTactic
import Derived.BigQuiet
import Derived.Lib.Hide
import Derived.Deep.RegionHeld3
import Derived.Deep.DrawnRows
import Derived.IntWalk
import Derived.Handy
namespace Go.Proofs.YtkcgijkccpiljaaDoor
open Go.RowKit
set_option linter.unusedVariables false
attribute [local go_sem ↓] Go.wp_at_zero Go.wp_at_succ

theorem bcell {W w1 : World} (hb : Below W.heap.size W w1) : (∀ b o, b < W.heap.size → w1.cell? ⟨b, o, none⟩ = W.cell? ⟨b, o, none⟩) ∧ (∀ b o, b < W.heap.size → w1.frozen? ⟨b, o, none⟩ = W.frozen? ⟨b, o, none⟩) :=
  ⟨fun b o h => hb.cell (p := ⟨b, o, none⟩) h, fun b o h => hb.frozen (p := ⟨b, o, none⟩) h⟩

def tmd (t : Int) : Bool := decide (1 ≤ t) && decide (t ≤ 16777215)
theorem timed_any (t : Int) (w : World) : Calls Tryd.prog 33 #[.int .i64 t] w fun e w' => e = .returned (.bool (tmd t)) ∧ w = w' := by
  by_cases h1 : 1 ≤ t
  all_goals by_cases h2 : t ≤ 16777215
  all_goals (go_enter Tryd.func33, Tryd.ntmps33; go_wp2; go_ret; exact ⟨by simp_all [tmd], rfl⟩)

def rsc (a b : Int) : Bool := decide (0 ≤ a) && decide (a < b) && decide (b ≤ 1048576)
theorem rightScale_any (a b : Int) (w : World) : Calls Tryd.prog 27 #[.agg #[.int .i64 a, .int .i64 b]] w fun e w' => e = .returned (.bool (rsc a b)) ∧ Below w.heap.size w w' := by
  by_cases h1 : 0 ≤ a
  all_goals by_cases h2 : a < b
  all_goals by_cases h3 : b ≤ 1048576
  all_goals first | (exfalso; omega) | skip
  all_goals (go_enter Tryd.func27, Tryd.ntmps27; go_wp2_with fail; go_ret; exact ⟨by simp_all [rsc], (Below.refl _ _).alloc (Nat.le_refl _) _⟩)

def lvs (a b live : Int) : Bool := rsc a b && decide (0 ≤ live) && decide (live < b)
set_option maxHeartbeats 400000 in
theorem lives_any (a b l : Int) (w : World) : Calls Tryd.prog 34 #[.agg #[.int .i64 a, .int .i64 b], .int .i64 l] w fun e w' => e = .returned (.bool (lvs a b l)) ∧ Below w.heap.size w w' := by
  have HR : Hid (∀ W, Calls Tryd.prog 27 #[.agg #[.int .i64 a, .int .i64 b]] W fun e w' => e = .returned (.bool (rsc a b)) ∧ Below W.heap.size W w') := fun W => rightScale_any a b W
  unfold lvs
  generalize rsc a b = r at *
  cases r
  all_goals by_cases h1 : 0 ≤ l
  all_goals by_cases h2 : l < b
  all_goals (go_enter Tryd.func34, Tryd.ntmps34; go_wp2_with fail; refine (HR.out _).mono ?_; rintro e w' ⟨rfl, hb⟩; obtain ⟨hc, hf⟩ := bcell hb; go_wp2_with fail; go_ret; exact ⟨by simp_all, bthen ((Below.refl _ _).alloc (Nat.le_refl _) _) hb⟩)

/-- A scaled timeout. -/
def scl (t a b l : Int) : Int := if l ≤ a then t else max 1 (t * (b - l) / (b - a))

theorem scl_range (t a b l : Int) (ht : 1 ≤ t) (ha : 0 ≤ a) (hb : a < b) (hl : 0 ≤ l) (hlb : l < b) : 1 ≤ scl t a b l ∧ scl t a b l ≤ t := by
  unfold scl
  split
  · omega
  · rename_i h
    have h1 : t * (b - l) / (b - a) ≤ t := by
      apply Int.ediv_le_of_le_mul (by omega)
      exact Int.mul_le_mul_of_nonneg_left (by omega) (by omega)
    omega

set_option maxHeartbeats 400000 in
theorem scaled_box (t a b l : Int) (w : World) (ht : 1 ≤ t) (ht2 : t ≤ 16777215) (ha : 0 ≤ a) (hab : a < b) (hb : b ≤ 1048576) (hl : 0 ≤ l) (hlb : l < b) :
    Calls Tryd.prog 35 #[.agg #[.int .i64 a, .int .i64 b], .int .i64 t, .int .i64 l] w fun e w' => e = .returned (.int .i64 (scl t a b l)) ∧ w' = w.alloc (.cells #[.int .i64 a, .int .i64 b] 23) := by
  by_cases h : l ≤ a
  · have e1 : scl t a b l = t := if_pos h
    rw [e1]
    clear e1
    go_enter Tryd.func35, Tryd.ntmps35
    go_wp2_with fail
    go_ret
    exact ⟨rfl, rfl⟩
  · have e1 : scl t a b l = max 1 (t * (b - l) / (b - a)) := if_neg h
    have e2 : 0 ≤ t * (b - l) ∧ t * (b - l) ≤ 16777215 * 1048576 := ⟨Int.mul_nonneg (by omega) (by omega), Int.mul_le_mul (by omega) (by omega) (by omega) (by omega)⟩
    go_enter Tryd.func35, Tryd.ntmps35
    go_wp2_with fail
    all_goals
      go_ret
      exact ⟨by rw [Int.max_def]; split <;> simp <;> omega, rfl⟩
theorem scaled_any (t a b l : Int) (w : World) (ht : 1 ≤ t) (ht2 : t ≤ 16777215) (ha : 0 ≤ a) (hab : a < b) (hb : b ≤ 1048576) (hl : 0 ≤ l) (hlb : l < b) :
    Calls Tryd.prog 35 #[.agg #[.int .i64 a, .int .i64 b], .int .i64 t, .int .i64 l] w fun e w' => e = .returned (.int .i64 (scl t a b l)) ∧ Below w.heap.size w w' :=
  (scaled_box t a b l w ht ht2 ha hab hb hl hlb).mono fun _ _ ⟨h, k⟩ => ⟨h, k ▸ (Below.refl _ _).alloc (Nat.le_refl _) _⟩

/-- What Scaled returns. -/
def sclE (t a b l : Int) : Int × Int := if tmd t && lvs a b l then (scl t a b l, 0) else (0, 2)

theorem lvs_true {a b l : Int} (h : lvs a b l = true) : 0 ≤ a ∧ a < b ∧ b ≤ 1048576 ∧ 0 ≤ l ∧ l < b := by
  simp only [lvs, rsc, Bool.and_eq_true, decide_eq_true_eq] at h
  omega
theorem tmd_true {t : Int} (h : tmd t = true) : 1 ≤ t ∧ t ≤ 16777215 := by
  simp only [tmd, Bool.and_eq_true, decide_eq_true_eq] at h
  omega

set_option maxHeartbeats 400000 in
theorem Scaled_any (t a b l : Int) (w : World) :
    Calls Tryd.prog 17 #[.int .i64 t, .agg #[.int .i64 a, .int .i64 b], .int .i64 l] w fun e w' => e = .returned (.tuple #[.int .i64 (sclE t a b l).1, .int .i64 (sclE t a b l).2]) ∧ Below w.heap.size w w' := by
  have HT : Hid (∀ W, Calls Tryd.prog 33 #[.int .i64 t] W fun e w' => e = .returned (.bool (tmd t)) ∧ W = w') := fun W => timed_any t W
  have HL : Hid (∀ W, Calls Tryd.prog 34 #[.agg #[.int .i64 a, .int .i64 b], .int .i64 l] W fun e w' => e = .returned (.bool (lvs a b l)) ∧ Below W.heap.size W w') := fun W => lives_any a b l W
  by_cases h1 : tmd t = true
  · by_cases h2 : lvs a b l = true
    · have e1 : sclE t a b l = (scl t a b l, 0) := by simp [sclE, h1, h2]
      rw [e1]
      have k1 := tmd_true h1
      have k2 := lvs_true h2
      have HS : Hid (∀ W, Calls Tryd.prog 35 #[.agg #[.int .i64 a, .int .i64 b], .int .i64 t, .int .i64 l] W fun e w' => e = .returned (.int .i64 (scl t a b l)) ∧ Below W.heap.size W w') := fun W => scaled_any t a b l W k1.1 k1.2 k2.1 k2.2.1 k2.2.2.1 k2.2.2.2.1 k2.2.2.2.2
      rw [h1] at HT
      rw [h2] at HL
      clear e1 h1 h2 k1 k2
      generalize scl t a b l = r at *
      go_enter Tryd.func17, Tryd.ntmps17
      go_wp2_with (go_at_call 33; refine (HT.out _).mono ?_; rintro e w' ⟨rfl, rfl⟩)
      refine (HL.out _).mono ?_
      rintro e w1 ⟨rfl, hb⟩
      obtain ⟨hc, hf⟩ := bcell hb
      go_wp2_with fail
      refine (HS.out _).mono ?_
      rintro e w2 ⟨rfl, hb2⟩
      go_wp2_with fail
      go_ret2
      exact ⟨rfl, bthen (bthen ((Below.refl _ _).alloc (Nat.le_refl _) _) hb) hb2⟩
    · have e1 : sclE t a b l = (0, 2) := by simp [sclE, h1, h2]
      rw [e1]
      rw [h1] at HT
      rw [Bool.not_eq_true _ |>.mp h2] at HL
      clear e1 h1 h2
      go_enter Tryd.func17, Tryd.ntmps17
      go_wp2_with (go_at_call 33; refine (HT.out _).mono ?_; rintro e w' ⟨rfl, rfl⟩)
      refine (HL.out _).mono ?_
      rintro e w1 ⟨rfl, hb⟩
      obtain ⟨hc, hf⟩ := bcell hb
      go_wp2_with fail
      go_ret2
      exact ⟨rfl, bthen ((Below.refl _ _).alloc (Nat.le_refl _) _) hb⟩
  · have e1 : sclE t a b l = (0, 2) := by simp [sclE, h1]
    rw [e1]
    rw [Bool.not_eq_true _ |>.mp h1] at HT
    clear e1 h1
    go_enter Tryd.func17, Tryd.ntmps17
    go_wp2_with (go_at_call 33; refine (HT.out _).mono ?_; rintro e w' ⟨rfl, rfl⟩)
    go_ret2
    exact ⟨rfl, (Below.refl _ _).alloc (Nat.le_refl _) _⟩

def dln (now t : Int) : Int × Int := if decide (0 ≤ now) && decide (now ≤ 1099511627776) && tmd t then (now + t, 0) else (0, 2)
set_option maxHeartbeats 400000 in
theorem deadline_any (now t : Int) (w : World) : Calls Tryd.prog 26 #[.int .i64 now, .int .i64 t] w fun e w' => e = .returned (.tuple #[.int .i64 (dln now t).1, .int .i64 (dln now t).2]) ∧ w = w' := by
  by_cases h1 : 0 ≤ now
  all_goals by_cases h2 : now ≤ 1099511627776
  all_goals by_cases h3 : tmd t = true
  all_goals first | (exfalso; omega) | skip
  · have e1 : dln now t = (now + t, 0) := by simp [dln, h1, h2, h3]
    have k1 := tmd_true h3
    have HT : Hid (∀ W, Calls Tryd.prog 33 #[.int .i64 t] W fun e w' => e = .returned (.bool true) ∧ W = w') := fun W => h3 ▸ timed_any t W
    rw [e1]
    clear e1 h3
    obtain ⟨k1, k2⟩ := k1
    go_enter Tryd.func26, Tryd.ntmps26
    go_wp2_with (go_at_call 33; refine (HT.out _).mono ?_; rintro e w' ⟨rfl, rfl⟩)
    go_ret2
    exact ⟨rfl, rfl⟩
  all_goals
    have e1 : dln now t = (0, 2) := by simp [dln, h1, h2, h3]
    rw [e1]
    clear e1
    first
    | (have HT : Hid (∀ W, Calls Tryd.prog 33 #[.int .i64 t] W fun e w' => e = .returned (.bool false) ∧ W = w') := fun W => (Bool.not_eq_true _ |>.mp h3) ▸ timed_any t W
       clear h3
       go_enter Tryd.func26, Tryd.ntmps26
       go_wp2_with (go_at_call 33; refine (HT.out _).mono ?_; rintro e w' ⟨rfl, rfl⟩)
       go_ret2
       exact ⟨rfl, rfl⟩)
    | (clear h3
       go_enter Tryd.func26, Tryd.ntmps26
       go_wp2_with fail
       go_ret2
       exact ⟨rfl, rfl⟩)

set_option maxHeartbeats 400000 in
theorem modulo_any (n b : Int) (w : World) (hn : -9223372036854775808 ≤ n) (hn2 : n ≤ 9223372036854775807) (hb : 1 ≤ b) (hb2 : b ≤ 1000000000) : Calls Tryd.prog 16 #[.int .i64 n, .int .i64 b] w fun e w' => e = .returned (.int .i64 (n % b)) ∧ w = w' := by
  have h1 := Int.tmod_lt_of_pos n (show 0 < b by omega)
  have h2 := Int.lt_tmod_of_pos n (show 0 < b by omega)
  have H3 : Hid ((n.tmod b + b) % b = n % b) := by
    show _ = _
    rw [Int.add_emod_right, Int.tmod_def, Int.sub_mul_emod_self_left]
  go_enter Tryd.func16, Tryd.ntmps16
  go_wp2_with fail
  go_ret
  exact ⟨by rw [H3.out]; rfl, rfl⟩

set_option maxHeartbeats 1000000 in
theorem made_any (t a b : Int) (w : World) (h1 : -9223372036854775808 ≤ t) (h2 : t ≤ 9223372036854775807) (h3 : -9223372036854775808 ≤ a) (h4 : a ≤ 9223372036854775807) (h5 : -9223372036854775808 ≤ b) (h6 : b ≤ 9223372036854775807) :
    Calls Tryd.prog 15 #[.agg #[.int .i64 t, .int .i64 a, .int .i64 b]] w fun e w' => e = .returned (.tuple #[.int .i64 (1 + t % 16777215), .agg #[.int .i64 (a % 5000), .int .i64 (a % 5000 + 1 + b % 5000)]]) ∧ Below w.heap.size w w' := by
  have HA : Hid (∀ W, Calls Tryd.prog 16 #[.int .i64 a, .int .i64 5000] W fun e w' => e = .returned (.int .i64 (a % 5000)) ∧ W = w') := fun W => modulo_any a 5000 W h3 h4 (by omega) (by omega)
  have HB : Hid (∀ W, Calls Tryd.prog 16 #[.int .i64 b, .int .i64 5000] W fun e w' => e = .returned (.int .i64 (b % 5000)) ∧ W = w') := fun W => modulo_any b 5000 W h5 h6 (by omega) (by omega)
  have HC : Hid (∀ W, Calls Tryd.prog 16 #[.int .i64 t, .int .i64 16777215] W fun e w' => e = .returned (.int .i64 (t % 16777215)) ∧ W = w') := fun W => modulo_any t 16777215 W h1 h2 (by omega) (by omega)
  obtain ⟨x, hx⟩ : ∃ x, a % 5000 = x := ⟨_, rfl⟩
  obtain ⟨y, hy⟩ : ∃ y, b % 5000 = y := ⟨_, rfl⟩
  obtain ⟨z, hz⟩ : ∃ z, t % 16777215 = z := ⟨_, rfl⟩
  have hx1 : 0 ≤ x ∧ x < 5000 := by omega
  have hy1 : 0 ≤ y ∧ y < 5000 := by omega
  have hz1 : 0 ≤ z ∧ z < 16777215 := by omega
  rw [hx] at HA ⊢
  rw [hy] at HB ⊢
  rw [hz] at HC ⊢
  clear h1 h2 h3 h4 h5 h6 hx hy hz
  obtain ⟨hx1, hx2⟩ := hx1
  obtain ⟨hy1, hy2⟩ := hy1
  obtain ⟨hz1, hz2⟩ := hz1
  go_enter Tryd.func15, Tryd.ntmps15
  go_wp2_with (go_at_call 16; refine (HA.out _).mono ?_; rintro e w' ⟨rfl, rfl⟩)
  have q1 : IntKind.i64.wrap (x + 1) = x + 1 := IntWalk.i64_in _ (by omega)
  have q2 : IntKind.i64.wrap (x + 1 + y) = x + 1 + y := IntWalk.i64_in _ (by omega)
  have q3 : IntKind.i64.wrap (1 + z) = 1 + z := IntWalk.i64_in _ (by omega)
  go_region_held3 (fun w' => w'.cell? ⟨w.heap.size, 0, none⟩ = some (.int .i64 t) ∧ w'.cell? ⟨w.heap.size, 2, none⟩ = some (.int .i64 b)) (go_keep) (first | (go_at_call 16; ((with_reducible refine (HB.out _).mono ?_); rintro e w' ⟨rfl, rfl⟩)) | (go_at_call 16; ((with_reducible refine (HC.out _).mono ?_); rintro e w' ⟨rfl, rfl⟩)))
  clear q1 q2 q3
  go_wp2_with fail
  refine bodyPost_ret (v := .tuple #[.int .i64 (1 + z), .agg #[.int .i64 x, .int .i64 (x + 1 + y)]]) (by simp [results, Tryd.results15, go_sem]) rfl ⟨rfl, ?_⟩
  repeat' (first | exact Below.refl _ _ | refine below_drewN ?_ _ | refine Below.drew ?_ | refine Below.setCell ?_ (by simp <;> omega) _ | refine Below.alloc ?_ (by simp <;> omega) _)

end Go.Proofs.YtkcgijkccpiljaaDoor
