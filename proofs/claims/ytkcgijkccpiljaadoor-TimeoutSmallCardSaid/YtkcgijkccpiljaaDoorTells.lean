/-
  The walk of the law TimeoutTells: it returns true at every input and writes nothing that was there.
-/
import Derived.Test.YtkcgijkccpiljaaDoorScales
import Derived.Test.YtkcgijkccpiljaaDoorRef
namespace Go.Proofs.YtkcgijkccpiljaaDoor
open Go.ChangeShapes Go.WideShapes Go.ChangeAt Go.RowKit
set_option linter.unusedVariables false
attribute [local go_sem ↓] Go.wp_at_zero Go.wp_at_succ

theorem rightScale_box (a b : Int) (w : World) : Calls Tryd.prog 27 #[.agg #[.int .i64 a, .int .i64 b]] w fun e w' => e = .returned (.bool (rsc a b)) ∧ w' = w.alloc (.cells #[.int .i64 a, .int .i64 b] 23) := by
  by_cases h1 : 0 ≤ a
  all_goals by_cases h2 : a < b
  all_goals by_cases h3 : b ≤ 1048576
  all_goals first | (exfalso; omega) | skip
  all_goals (go_enter Tryd.func27, Tryd.ntmps27; go_wp2_with fail; go_ret; exact ⟨by simp_all [rsc], rfl⟩)
theorem rrightScale_box (a b : Int) (w : World) : Calls Tryd.prog 32 #[.agg #[.int .i64 a, .int .i64 b]] w fun e w' => e = .returned (.bool (rsc a b)) ∧ w' = w.alloc (.cells #[.int .i64 a, .int .i64 b] 56) := by
  by_cases h1 : 0 ≤ a
  all_goals by_cases h2 : a < b
  all_goals by_cases h3 : b ≤ 1048576
  all_goals first | (exfalso; omega) | skip
  all_goals (go_enter Tryd.func32, Tryd.ntmps32; go_wp2_with fail; go_ret; exact ⟨by simp_all [rsc], rfl⟩)

theorem scale_of {cs : List Value} (h : All2 [some .i64, some .i64] cs) : ∃ x : Int × Int, cs = [.int .i64 x.1, .int .i64 x.2] ∧ B64 x.1 ∧ B64 x.2 := by
  obtain ⟨a, r, rfl, ha, h1⟩ := all2_int h
  obtain ⟨b, r, rfl, hb, h2⟩ := all2_int h1
  obtain rfl := all2_nil h2
  exact ⟨(a, b), rfl, bounds_i64 ha, bounds_i64 hb⟩

set_option maxRecDepth 100000 in
set_option maxHeartbeats 2000000 in
theorem tells_any (t a b l now : Int) (w : World) :
    Calls Tryd.prog 13 #[.int .i64 t, .agg #[.int .i64 a, .int .i64 b], .int .i64 l, .int .i64 now] w fun e w' => e = .returned (.bool true) ∧ Below w.heap.size w w' := by
  have H1 := Lib.hid (fun W => Scaled_any t a b l W)
  have H2 := Lib.hid (fun W => rScaled_any t a b l W)
  have H3 := Lib.hid (fun W => most_any t a b l W)
  have H4 := Lib.hid (fun W => rmost_any t a b l W)
  have H5 := Lib.hid (fun W => deadline_any now t W)
  have H6 := Lib.hid (fun W => rdeadline_any now t W)
  have H7 := Lib.hid (fun W => rightScale_box a b W)
  have H8 := Lib.hid (fun W => rrightScale_box a b W)
  generalize sclE t a b l = X at *
  generalize mstE t a b l = Y at *
  generalize dln now t = Z at *
  generalize rsc a b = R at *
  obtain ⟨x1, x2⟩ := X
  obtain ⟨y1, y2⟩ := Y
  obtain ⟨z1, z2⟩ := Z
  go_enter Tryd.func13, Tryd.ntmps13
  go_wp2_with fail
  refine (H1.out _).mono ?_
  rintro r w1 ⟨rfl, hb1⟩
  have c0 := kc hb1 (kc ((Below.refl _ _).alloc (Nat.le_refl _) _) (new2 w (.int .i64 a) (.int .i64 b) 23).1)
  have c1 := kc hb1 (kc ((Below.refl _ _).alloc (Nat.le_refl _) _) (new2 w (.int .i64 a) (.int .i64 b) 23).2)
  have d0 := kc hb1 (new2 (w.alloc _) (.int .i64 a) (.int .i64 b) 56).1
  have d1 := kc hb1 (new2 (w.alloc _) (.int .i64 a) (.int .i64 b) 56).2
  have hz1 : ∀ o, (w.alloc o).heap.size = w.heap.size + 1 := fun o => by simp
  rw [hz1] at d0 d1
  clear hz1
  have hb01 := bthen (((Below.refl _ w).alloc (Nat.le_refl _) _).alloc (by simp) _) hb1
  clear hb1
  go_wp2_with fail
  refine (H2.out _).mono ?_
  rintro r w2 ⟨rfl, hb2⟩
  replace c0 := kc hb2 c0
  replace c1 := kc hb2 c1
  replace d0 := kc hb2 d0
  replace d1 := kc hb2 d1
  have hb02 := bthen hb01 hb2
  clear hb2 hb01
  go_wp2_with fail
  refine (H3.out _).mono ?_
  rintro r w3 ⟨rfl, hb3⟩
  replace c0 := kc hb3 c0
  replace c1 := kc hb3 c1
  replace d0 := kc hb3 d0
  replace d1 := kc hb3 d1
  have hb03 := bthen hb02 hb3
  clear hb3 hb02
  go_wp2_with fail
  refine (H4.out _).mono ?_
  rintro r w4 ⟨rfl, hb4⟩
  replace c0 := kc hb4 c0
  replace c1 := kc hb4 c1
  replace d0 := kc hb4 d0
  replace d1 := kc hb4 d1
  have hb04 := bthen hb03 hb4
  clear hb4 hb03
  go_wp2_with fail
  refine (H5.out _).mono ?_
  rintro r w5 ⟨rfl, rfl⟩
  go_wp2_with fail
  refine (H6.out _).mono ?_
  rintro r w5 ⟨rfl, rfl⟩
  go_wp2_with fail
  have z1' := cell_lt c0
  have z2' := cell_lt d0
  simp only at z1' z2'
  go_region_held3 (fun w' => w'.cell? ⟨w.heap.size, 0, none⟩ = some (.int .i64 a) ∧ w'.cell? ⟨w.heap.size, 1, none⟩ = some (.int .i64 b) ∧ w'.cell? ⟨w.heap.size + 1, 0, none⟩ = some (.int .i64 a) ∧ w'.cell? ⟨w.heap.size + 1, 1, none⟩ = some (.int .i64 b)) (go_keep) (first | (go_at_call 27; ((with_reducible refine (H7.out _).mono ?_); rintro e w' ⟨rfl, rfl⟩)) | (go_at_call 32; ((with_reducible refine (H8.out _).mono ?_); rintro e w' ⟨rfl, rfl⟩)))
  all_goals
    go_wp2_with fail
    go_ret
    exact ⟨by simp, by repeat' (first | exact hb04 | refine below_drewN ?_ _ | refine Below.drew ?_ | refine Below.alloc ?_ (by have := hb04.size; simp <;> omega) _)⟩

set_option maxHeartbeats 400000 in
theorem timeoutTells_walk (t : Int) (s : Int × Int) (l now : Int) (w : World) (hT : Tab w) (ht : B64 t) (hs : B64 s.1 ∧ B64 s.2) (hl : B64 l) (hn : B64 now) :
    Calls Tryd.prog 3 #[.int .i64 t, .agg #[.int .i64 s.1, .int .i64 s.2], .int .i64 l, .int .i64 now] w fun e w' => e = .returned (.bool true) ∧ Below w.heap.size w w' := by
  obtain ⟨a, b⟩ := s
  have HT := Lib.hid hT
  clear hT ht hs hl hn
  go_enter Tryd.func3, Tryd.ntmps3
  go_wp2_with fail
  refine (tells_any _ _ _ _ _ _).mono ?_
  rintro r w1 ⟨rfl, hb1⟩
  have hb01 := bthen ((Below.refl _ w).alloc (Nat.le_refl _) _) hb1
  go_wp2_with fail
  refine (awake_any _ (HT.out.below hb01)).mono ?_
  rintro r w2 ⟨rfl, hb2⟩
  go_wp2_with fail
  go_ret
  exact ⟨rfl, bthen hb01 hb2⟩

end Go.Proofs.YtkcgijkccpiljaaDoor
