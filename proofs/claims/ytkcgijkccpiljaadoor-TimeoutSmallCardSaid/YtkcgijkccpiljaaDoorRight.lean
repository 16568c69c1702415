/-
  The contracts of timeout.Right (with slices.ContainsFunc, IndexFunc), Of, and of the reference's Right and Of: a base is nine integers.
-/
import Derived.Test.YtkcgijkccpiljaaDoorRef
namespace Go.Proofs.YtkcgijkccpiljaaDoor
open Go.RowKit
set_option linter.unusedVariables false
attribute [local go_sem ↓] Go.wp_at_zero Go.wp_at_succ

theorem kcp {W W' : World} {b o : Nat} {v : Value} (hb : Below W.heap.size W W') (h : W.cell? ⟨b, o, none⟩ = some v) : W'.cell? ⟨b, o, none⟩ = some v := (hb.cell (cell_lt h)).trans h
theorem new2p (w : World) (a b : Value) (t : TypeId) : (w.alloc (.cells #[a, b] t)).cell? ⟨w.heap.size, 0, none⟩ = some a ∧ (w.alloc (.cells #[a, b] t)).cell? ⟨w.heap.size, 1, none⟩ = some b := by
  constructor <;> simp
/-- Nine integers lie in a block. -/
def Nine (w : World) (n : Nat) (b : Nat → Int) : Prop := ∀ i, i < 9 → w.cell? ⟨n, i, none⟩ = some (.int .i64 (b i))
theorem Nine.below {w w' : World} {n : Nat} {b : Nat → Int} (h : Nine w n b) (hb : Below w.heap.size w w') : Nine w' n b := fun i hi => (hb.cell (cell_lt (h i hi))).trans (h i hi)
theorem nine_cases {i : Nat} (h : i < 9) : i = 0 ∨ i = 1 ∨ i = 2 ∨ i = 3 ∨ i = 4 ∨ i = 5 ∨ i = 6 ∨ i = 7 ∨ i = 8 := by omega
theorem Nine.new (w : World) (b : Nat → Int) (t : TypeId) {n : Nat} (hn : n = w.heap.size) : Nine (w.alloc (.cells #[.int .i64 (b 0), .int .i64 (b 1), .int .i64 (b 2), .int .i64 (b 3), .int .i64 (b 4), .int .i64 (b 5), .int .i64 (b 6), .int .i64 (b 7), .int .i64 (b 8)] t)) n b := by
  intro i hi
  subst hn
  rcases nine_cases hi with rfl | rfl | rfl | rfl | rfl | rfl | rfl | rfl | rfl <;> simp

/-- A base is right. -/
def rgt (b : Nat → Int) : Bool := (List.range 9).all fun i => tmd (b i)
theorem rgt_true {b : Nat → Int} (h : rgt b = true) : ∀ i, i < 9 → tmd (b i) = true := by simpa [rgt] using h
theorem rgt_false {b : Nat → Int} (k : Nat) (hk : k < 9) (h : tmd (b k) = false) : rgt b = false := by
  rw [Bool.eq_false_iff]
  intro hr
  rw [rgt_true hr k hk] at h
  cases h
theorem rgt_mk {b : Nat → Int} (h : ∀ i, i < 9 → tmd (b i) = true) : rgt b = true := by simpa [rgt] using h

theorem untimed_any (t : Int) (w : World) : Calls Tryd.prog 44 #[.int .i64 t] w fun e w' => e = .returned (.bool (!tmd t)) ∧ w = w' := by
  have HT := Lib.hid (fun W => timed_any t W)
  generalize tmd t = x at *
  go_enter Tryd.func44, Tryd.ntmps44
  go_wp2_with (go_at_call 33; refine (HT.out _).mono ?_; rintro e w' ⟨rfl, rfl⟩)
  go_ret
  exact ⟨by simp, rfl⟩

def IdxPost (w : World) (b : Nat → Int) (e : Ending) (w' : World) : Prop := ∃ r : Int, e = .returned (.int .i64 r) ∧ decide (0 ≤ r) = !rgt b ∧ w = w'
set_option maxHeartbeats 400000 in
theorem indexFunc_any (n : Nat) (b : Nat → Int) (w : World) (h : Nine w n b) : Calls Tryd.prog 47 #[.slice (some ⟨n, 0, none⟩) 9 9, .func (.func 44) #[] #[]] w (IdxPost w b) := by
  have H := Lib.hid h
  clear h
  go_enter Tryd.func47, Tryd.ntmps47
  go_wp2_with fail
  go_loop [8] (fun i => ∃ k : Nat, k ≤ 9 ∧ i = .int .i64 k ∧ Hid (∀ j, j < k → tmd (b j) = true)) (fun i => 9 - (intOf i).toNat)
  case atStart => exact ⟨0, by omega, rfl, fun j hj => absurd hj (by omega)⟩
  case round =>
    obtain ⟨k, hk, rfl, hne⟩ := hrel
    by_cases hlt : k < 9
    · have hc := H.out k hlt
      have HC := Lib.hid (fun W => untimed_any (b k) W)
      cases he : tmd (b k)
      · rw [he] at HC
        have HN := Lib.hid (rgt_false k hlt he)
        clear he
        generalize b k = bk at *
        go_wp2_with (go_at_call 44; refine (HC.out _).mono ?_; rintro e w' ⟨rfl, rfl⟩)
        go_ret
        exact ⟨k, rfl, by rw [HN.out]; simp, rfl⟩
      · rw [he] at HC
        have HN : Hid (∀ j, j < k + 1 → tmd (b j) = true) := fun j hj => by
          rcases Nat.lt_succ_iff_lt_or_eq.1 hj with h1 | rfl
          · exact hne.out j h1
          · exact he
        clear he
        generalize b k = bk at *
        go_wp2_with (go_at_call 44; refine (HC.out _).mono ?_; rintro e w' ⟨rfl, rfl⟩)
        go_round
        case rel => exact ⟨k + 1, by omega, by go_num, HN⟩
        case measure => simp [intOf]; omega
    · obtain rfl : k = 9 := by omega
      have HN := Lib.hid (rgt_mk hne.out)
      go_wp2_with fail
      go_ret
      exact ⟨-1, rfl, by rw [HN.out]; rfl, rfl⟩

theorem containsFunc_any (n : Nat) (b : Nat → Int) (w : World) (h : Nine w n b) : Calls Tryd.prog 43 #[.slice (some ⟨n, 0, none⟩) 9 9, .func (.func 44) #[] #[]] w fun e w' => e = .returned (.bool (!rgt b)) ∧ w = w' := by
  have H := Lib.hid (indexFunc_any n b w h)
  clear h
  go_enter Tryd.func43, Tryd.ntmps43
  go_wp2_with fail
  refine H.out.mono ?_
  rintro e w' ⟨r, rfl, hr, rfl⟩
  have HR := Lib.hid hr
  clear hr
  go_wp2_with fail
  go_ret
  exact ⟨by rw [← HR.out]; rfl, rfl⟩

theorem right_any (b : Nat → Int) (w : World) : Calls Tryd.prog 24 #[.agg #[.int .i64 (b 0), .int .i64 (b 1), .int .i64 (b 2), .int .i64 (b 3), .int .i64 (b 4), .int .i64 (b 5), .int .i64 (b 6), .int .i64 (b 7), .int .i64 (b 8)]] w fun e w' => e = .returned (.bool (rgt b)) ∧ w' = w.alloc (.cells #[.int .i64 (b 0), .int .i64 (b 1), .int .i64 (b 2), .int .i64 (b 3), .int .i64 (b 4), .int .i64 (b 5), .int .i64 (b 6), .int .i64 (b 7), .int .i64 (b 8)] 42) := by
  have H := Lib.hid (containsFunc_any w.heap.size b _ (Nine.new w b 42 rfl))
  generalize rgt b = r at *
  go_enter Tryd.func24, Tryd.ntmps24
  go_wp2_with fail
  refine H.out.mono ?_
  rintro e w' ⟨rfl, rfl⟩
  go_wp2_with fail
  go_ret
  exact ⟨by simp, rfl⟩

set_option maxHeartbeats 400000 in
theorem rright_any (b : Nat → Int) (w : World) : Calls Tryd.prog 42 #[.agg #[.int .i64 (b 0), .int .i64 (b 1), .int .i64 (b 2), .int .i64 (b 3), .int .i64 (b 4), .int .i64 (b 5), .int .i64 (b 6), .int .i64 (b 7), .int .i64 (b 8)]] w fun e w' => e = .returned (.bool (rgt b)) ∧ w' = w.alloc (.cells #[.int .i64 (b 0), .int .i64 (b 1), .int .i64 (b 2), .int .i64 (b 3), .int .i64 (b 4), .int .i64 (b 5), .int .i64 (b 6), .int .i64 (b 7), .int .i64 (b 8)] 41) := by
  have H := Lib.hid (Nine.new w b 41 rfl)
  go_enter Tryd.func42, Tryd.ntmps42
  go_wp2_with fail
  generalize hW : w.alloc (.cells #[.int .i64 (b 0), .int .i64 (b 1), .int .i64 (b 2), .int .i64 (b 3), .int .i64 (b 4), .int .i64 (b 5), .int .i64 (b 6), .int .i64 (b 7), .int .i64 (b 8)] 41) = W
  rw [hW] at H
  have HW := Lib.hid hW
  clear hW
  go_loop [3] (fun i => ∃ k : Nat, k ≤ 9 ∧ i = .int .i64 k ∧ Hid (∀ j, j < k → tmd (b j) = true)) (fun i => 9 - (intOf i).toNat)
  case atStart => exact ⟨0, by omega, rfl, fun j hj => absurd hj (by omega)⟩
  case round =>
    obtain ⟨k, hk, rfl, hne⟩ := hrel
    by_cases hlt : k < 9
    · have hc := H.out k hlt
      have HC := Lib.hid (fun W => rtimed_any (b k) W)
      cases he : tmd (b k)
      · rw [he] at HC
        have HN := Lib.hid (rgt_false k hlt he)
        clear he
        generalize hbk : b k = bk at *
        clear hbk
        go_wp2_with (go_at_call 45; refine (HC.out _).mono ?_; rintro e w' ⟨rfl, rfl⟩)
        go_ret
        exact ⟨by rw [HN.out]; rfl, HW.out.symm⟩
      · rw [he] at HC
        have HN : Hid (∀ j, j < k + 1 → tmd (b j) = true) := fun j hj => by
          rcases Nat.lt_succ_iff_lt_or_eq.1 hj with h1 | rfl
          · exact hne.out j h1
          · exact he
        clear he
        generalize hbk : b k = bk at *
        clear hbk
        go_wp2_with (go_at_call 45; refine (HC.out _).mono ?_; rintro e w' ⟨rfl, rfl⟩)
        go_round
        case rel => exact ⟨k + 1, by omega, by go_num, HN⟩
        case measure => simp [intOf]; omega
    · obtain rfl : k = 9 := by omega
      have HN := Lib.hid (rgt_mk hne.out)
      go_wp2_with fail
      go_ret
      exact ⟨by rw [HN.out]; rfl, HW.out.symm⟩

/-- What Of returns. -/
def ofE (b : Nat → Int) (c s e l : Int) : Int × Int := if rgt b && decide (c < 9) && lvs s e l then (scl (b c.toNat) s e l, 0) else (0, 2)

set_option maxHeartbeats 1000000 in
theorem of_any (b : Nat → Int) (c s e l : Int) (w : World) (hc0 : 0 ≤ c) : Calls Tryd.prog 25 #[.agg #[.int .i64 (b 0), .int .i64 (b 1), .int .i64 (b 2), .int .i64 (b 3), .int .i64 (b 4), .int .i64 (b 5), .int .i64 (b 6), .int .i64 (b 7), .int .i64 (b 8)], .int .u8 c, .agg #[.int .i64 s, .int .i64 e], .int .i64 l] w fun r w' => r = .returned (.tuple #[.int .i64 (ofE b c s e l).1, .int .i64 (ofE b c s e l).2]) ∧ Below w.heap.size w w' := by
  have HR := Lib.hid (fun W => right_any b W)
  have HL := Lib.hid (fun W => lives_any s e l W)
  by_cases h1 : rgt b = true
  rotate_left
  · have e1 : ofE b c s e l = (0, 2) := by simp [ofE, h1]
    rw [e1]
    rw [Bool.not_eq_true _ |>.mp h1] at HR
    clear e1 h1
    go_enter Tryd.func25, Tryd.ntmps25
    go_wp2_with fail
    refine (HR.out _).mono ?_
    rintro e w1 ⟨rfl, rfl⟩
    go_wp2_with fail
    go_ret2
    exact ⟨rfl, by repeat' (first | exact Below.refl _ _ | refine Below.alloc ?_ (by simp <;> omega) _)⟩
  by_cases h2 : 9 ≤ c
  · have e1 : ofE b c s e l = (0, 2) := by simp [ofE]; omega
    rw [e1]
    rw [h1] at HR
    clear e1 h1
    go_enter Tryd.func25, Tryd.ntmps25
    go_wp2_with fail
    refine (HR.out _).mono ?_
    rintro e w1 ⟨rfl, rfl⟩
    go_wp2_with fail
    go_ret2
    exact ⟨rfl, by repeat' (first | exact Below.refl _ _ | refine Below.alloc ?_ (by simp <;> omega) _)⟩
  by_cases h3 : lvs s e l = true
  rotate_left
  · have e1 : ofE b c s e l = (0, 2) := by simp [ofE, h3]
    rw [e1]
    rw [h1] at HR
    rw [Bool.not_eq_true _ |>.mp h3] at HL
    clear e1 h1 h3
    go_enter Tryd.func25, Tryd.ntmps25
    go_wp2_with fail
    refine (HR.out _).mono ?_
    rintro e w1 ⟨rfl, rfl⟩
    go_wp2_with fail
    refine (HL.out _).mono ?_
    rintro e w2 ⟨rfl, hb⟩
    go_wp2_with fail
    go_ret2
    exact ⟨rfl, bthen (by repeat' (first | exact Below.refl _ _ | refine Below.alloc ?_ (by simp <;> omega) _)) hb⟩
  have h2' : c < 9 := by omega
  have e1 : ofE b c s e l = (scl (b c.toNat) s e l, 0) := by simp [ofE, h1, h2', h3]
  rw [e1]
  obtain ⟨k1, k2, k3, k4, k5⟩ := lvs_true h3
  obtain ⟨q1, q2⟩ := tmd_true (rgt_true h1 c.toNat (by omega))
  have HS := Lib.hid (fun W => scaled_box (b c.toNat) s e l W q1 q2 k1 k2 k3 k4 k5)
  rw [h1] at HR
  rw [h3] at HL
  clear e1 h1 h3
  have hN := Nine.new w b 42 rfl
  have c0 := hN c.toNat (by omega)
  clear hN
  obtain ⟨bc, hbc⟩ : ∃ bc, b c.toNat = bc := ⟨_, rfl⟩
  rw [hbc] at HS c0 q1 q2 ⊢
  clear hbc
  go_enter Tryd.func25, Tryd.ntmps25
  go_wp2_with fail
  refine (HR.out _).mono ?_
  rintro e w1 ⟨rfl, rfl⟩
  go_wp2_with fail
  refine (HL.out _).mono ?_
  rintro e w2 ⟨rfl, hb⟩
  have d0 := kcp hb (kcp ((Below.refl _ _).alloc (Nat.le_refl _) _) (kcp ((Below.refl _ _).alloc (Nat.le_refl _) _) c0))
  have d1 := kcp hb (kcp ((Below.refl _ _).alloc (Nat.le_refl _) _) (new2p (w.alloc _) (.int .i64 s) (.int .i64 e) 23).1)
  have d2 := kcp hb (kcp ((Below.refl _ _).alloc (Nat.le_refl _) _) (new2p (w.alloc _) (.int .i64 s) (.int .i64 e) 23).2)
  have hz1 : ∀ o, (w.alloc o).heap.size = w.heap.size + 1 := fun o => by simp
  rw [hz1] at d1 d2
  have hb2 : Below w.heap.size w w2 := bthen (by repeat' (first | exact Below.refl _ _ | refine Below.alloc ?_ (by simp <;> omega) _)) hb
  clear hb hz1 c0
  have z1' := cell_lt d0
  have z2' := cell_lt d1
  simp only at z1' z2'
  go_wp2_with fail
  go_region_held3 (fun w' => w'.cell? ⟨w.heap.size, c.toNat, none⟩ = some (.int .i64 bc) ∧ w'.cell? ⟨w.heap.size + 1, 0, none⟩ = some (.int .i64 s) ∧ w'.cell? ⟨w.heap.size + 1, 1, none⟩ = some (.int .i64 e)) (go_keep) (first | (go_at_call 35; ((with_reducible refine (HS.out _).mono ?_); rintro e w' ⟨rfl, rfl⟩)))
  go_wp2_with fail
  go_ret2
  exact ⟨rfl, by repeat' (first | exact hb2 | refine below_drewN ?_ _ | refine Below.drew ?_ | refine Below.alloc ?_ (by have := hb2.size; simp <;> omega) _)⟩

theorem ofE_ref (b : Nat → Int) (c s e l : Int) (h1 : rgt b = true) (h2 : c < 9) (h0 : 0 ≤ c) : ofE b c s e l = sclE (b c.toNat) s e l := by
  have := rgt_true h1 c.toNat (by omega)
  simp [ofE, sclE, h1, h2, this]

set_option maxHeartbeats 1000000 in
theorem rof_any (b : Nat → Int) (c s e l : Int) (w : World) (hc0 : 0 ≤ c) : Calls Tryd.prog 40 #[.agg #[.int .i64 (b 0), .int .i64 (b 1), .int .i64 (b 2), .int .i64 (b 3), .int .i64 (b 4), .int .i64 (b 5), .int .i64 (b 6), .int .i64 (b 7), .int .i64 (b 8)], .int .u8 c, .agg #[.int .i64 s, .int .i64 e], .int .i64 l] w fun r w' => r = .returned (.tuple #[.int .i64 (ofE b c s e l).1, .int .i64 (ofE b c s e l).2]) ∧ Below w.heap.size w w' := by
  have HR := Lib.hid (fun W => rright_any b W)
  by_cases h1 : rgt b = true
  rotate_left
  · have e1 : ofE b c s e l = (0, 2) := by simp [ofE, h1]
    rw [e1]
    rw [Bool.not_eq_true _ |>.mp h1] at HR
    clear e1 h1
    go_enter Tryd.func40, Tryd.ntmps40
    go_wp2_with fail
    refine (HR.out _).mono ?_
    rintro e w1 ⟨rfl, rfl⟩
    go_wp2_with fail
    go_ret2
    exact ⟨rfl, by repeat' (first | exact Below.refl _ _ | refine Below.alloc ?_ (by simp <;> omega) _)⟩
  by_cases h2 : 9 ≤ c
  · have e1 : ofE b c s e l = (0, 2) := by simp [ofE]; omega
    rw [e1]
    rw [h1] at HR
    have h2' : 8 < c := by omega
    clear e1 h1
    go_enter Tryd.func40, Tryd.ntmps40
    go_wp2_with fail
    refine (HR.out _).mono ?_
    rintro e w1 ⟨rfl, rfl⟩
    go_wp2_with fail
    go_ret2
    exact ⟨rfl, by repeat' (first | exact Below.refl _ _ | refine Below.alloc ?_ (by simp <;> omega) _)⟩
  have h2' : ¬ 8 < c := by omega
  rw [ofE_ref b c s e l h1 (by omega) hc0]
  have HS := Lib.hid (fun W => rScaled_any (b c.toNat) s e l W)
  generalize sclE (b c.toNat) s e l = R at *
  obtain ⟨R1, R2⟩ := R
  rw [h1] at HR
  clear h1
  have hN := Nine.new w b 41 rfl
  have c0 := hN c.toNat (by omega)
  clear hN
  go_enter Tryd.func40, Tryd.ntmps40
  go_wp2_with fail
  refine (HR.out _).mono ?_
  rintro r w1 ⟨rfl, rfl⟩
  go_wp2_with fail
  generalize hW : World.alloc (World.alloc (World.alloc w _) _) _ = W
  have d0 : W.cell? ⟨w.heap.size, c.toNat, none⟩ = some (.int .i64 (b c.toNat)) := by
    subst hW
    exact kcp ((Below.refl _ _).alloc (Nat.le_refl _) _) (kcp ((Below.refl _ _).alloc (Nat.le_refl _) _) c0)
  have d1 : W.cell? ⟨w.heap.size + 1, 0, none⟩ = some (.int .i64 s) := by
    subst hW
    simp [go_sem]
  have d2 : W.cell? ⟨w.heap.size + 1, 1, none⟩ = some (.int .i64 e) := by
    subst hW
    simp [go_sem]
  have hb2 : Below w.heap.size w W := by
    subst hW
    repeat' (first | exact Below.refl _ w | refine Below.alloc ?_ (by simp <;> omega) _)
  clear hW c0
  generalize b c.toNat = bc at *
  have z1' := cell_lt d0
  have z2' := cell_lt d1
  simp only at z1' z2'
  go_region_held3 (fun w' => w'.cell? ⟨w.heap.size, c.toNat, none⟩ = some (.int .i64 bc) ∧ w'.cell? ⟨w.heap.size + 1, 0, none⟩ = some (.int .i64 s) ∧ w'.cell? ⟨w.heap.size + 1, 1, none⟩ = some (.int .i64 e)) (first | exact ⟨d0, d1, d2⟩ | exact ⟨kcp hbR d0, kcp hbR d1, kcp hbR d2⟩) (first | (go_at_call 29; ((with_reducible refine (HS.out _).mono ?_); rintro e w' ⟨rfl, hbR⟩)))
  go_wp2_with fail
  go_ret2
  exact ⟨rfl, bthen hb2.drew hbR⟩

end Go.Proofs.YtkcgijkccpiljaaDoor
