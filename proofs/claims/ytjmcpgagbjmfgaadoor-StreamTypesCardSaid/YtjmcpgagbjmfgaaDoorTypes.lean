/-
  The walk of StreamTypes: a type that answers another one answers just one, and is answered by none; flows of two types never allow the packets of one another.
-/
import Derived.Test.YtjmcpgagbjmfgaaDoorAwake
namespace Go.Proofs.YtjmcpgagbjmfgaaDoor
open Go.RowKit
set_option linter.unusedVariables false
set_option linter.unusedSimpArgs false

set_option maxRecDepth 100000 in
set_option maxHeartbeats 4000000 in
theorem types_8_8 (w : World) (HA : Hid (Ans w)) :
    Calls Tryd.prog 5 #[.int .u8 8, .int .u8 8] w fun e w' => e = .returned (.bool true) ∧ Below w.heap.size w w' := by
  go_enter Tryd.func5, Tryd.ntmps5
  go_wp2_with fail
  refine (awake_any _ HA.out).mono ?_
  rintro e w1 ⟨rfl, hb⟩
  have b1 : Below w.heap.size w w1 := bthen (by (repeat' (first | exact Below.refl _ _ | refine Below.setCell ?_ (by first | omega | (simp; done) | (simp; omega)) _ | refine Below.alloc ?_ (by first | omega | (simp; done) | (simp; omega)) _))) hb
  have d1 : Below w.heap.size w w1 := b1
  have k1 : w.heap.size ≤ w1.heap.size := d1.size
  clear hb
  go_wp2_with fail
  refine (answer_is 8 0 true _ (by decide) (by decide) (HA.out.below (by (repeat' (first | with_reducible exact d1 | refine Below.setCell ?_ (by first | omega | (simp; done) | (simp; omega)) _ | refine Below.alloc ?_ (by first | omega | (simp; done) | (simp; omega)) _)))) rfl rfl).mono ?_
  rintro e w' ⟨rfl, rfl⟩
  go_wp2_with fail
  refine (answer_is 8 0 true _ (by decide) (by decide) (HA.out.below (by (repeat' (first | with_reducible exact d1 | refine Below.setCell ?_ (by first | omega | (simp; done) | (simp; omega)) _ | refine Below.alloc ?_ (by first | omega | (simp; done) | (simp; omega)) _)))) rfl rfl).mono ?_
  rintro e w' ⟨rfl, rfl⟩
  go_wp2_with fail
  refine (answer_is 0 0 false _ (by decide) (by decide) (HA.out.below (by (repeat' (first | with_reducible exact d1 | refine Below.setCell ?_ (by first | omega | (simp; done) | (simp; omega)) _ | refine Below.alloc ?_ (by first | omega | (simp; done) | (simp; omega)) _)))) rfl rfl).mono ?_
  rintro e w' ⟨rfl, rfl⟩
  go_wp2_with fail
  refine (open_is (pkt 3 8) 3 8 (3, 1, 8) true _ (fa_pkt 3 8 (by decide) (by decide)) (HA.out.below (by (repeat' (first | with_reducible exact d1 | refine Below.setCell ?_ (by first | omega | (simp; done) | (simp; omega)) _ | refine Below.alloc ?_ (by first | omega | (simp; done) | (simp; omega)) _)))) rfl rfl).mono ?_
  rintro e w2 ⟨rfl, hb⟩
  have b2 : Below w1.heap.size w1 w2 := bthen (by (repeat' (first | exact Below.refl _ _ | refine Below.setCell ?_ (by first | omega | (simp; done) | (simp; omega)) _ | refine Below.alloc ?_ (by first | omega | (simp; done) | (simp; omega)) _))) hb
  have d2 : Below w.heap.size w w2 := bthen d1 b2
  have k2 : w.heap.size ≤ w2.heap.size := d2.size
  clear hb b2 d1 k1
  go_wp2_with fail
  refine (open_is (pkt 4 8) 4 8 (0, 0, 0) false _ (fa_pkt 4 8 (by decide) (by decide)) (HA.out.below (by (repeat' (first | with_reducible exact d2 | refine Below.setCell ?_ (by first | omega | (simp; done) | (simp; omega)) _ | refine Below.alloc ?_ (by first | omega | (simp; done) | (simp; omega)) _)))) rfl rfl).mono ?_
  rintro e w3 ⟨rfl, hb⟩
  have b3 : Below w2.heap.size w2 w3 := bthen (by (repeat' (first | exact Below.refl _ _ | refine Below.setCell ?_ (by first | omega | (simp; done) | (simp; omega)) _ | refine Below.alloc ?_ (by first | omega | (simp; done) | (simp; omega)) _))) hb
  have d3 : Below w.heap.size w w3 := bthen d2 b3
  have k3 : w.heap.size ≤ w3.heap.size := d3.size
  have x0_3 : w3.cell? ⟨w2.heap.size, 0, none⟩ = some (.int .u8 3) := (hb.cell (p := ⟨w2.heap.size, 0, none⟩) (by first | (simp; done) | (simp; omega))).trans (by simp [go_sem])
  have x1_3 : w3.cell? ⟨w2.heap.size, 1, none⟩ = some (.int .u8 1) := (hb.cell (p := ⟨w2.heap.size, 1, none⟩) (by first | (simp; done) | (simp; omega))).trans (by simp [go_sem])
  have x2_3 : w3.cell? ⟨w2.heap.size, 2, none⟩ = some (.int .u8 8) := (hb.cell (p := ⟨w2.heap.size, 2, none⟩) (by first | (simp; done) | (simp; omega))).trans (by simp [go_sem])
  have zx_3 : w2.heap.size < w3.heap.size := by have := hb.size; simp at this; omega
  clear hb b3 d2 k2
  go_wp2_with fail
  refine (step_is (pkt 3 8) 3 1 8 0 3 8 (3, 1, 8) true _ (fa_pkt 3 8 (by decide) (by decide)) (HA.out.below (by (repeat' (first | with_reducible exact d3 | refine Below.setCell ?_ (by first | omega | (simp; done) | (simp; omega)) _ | refine Below.alloc ?_ (by first | omega | (simp; done) | (simp; omega)) _)))) (by decide) (by decide) (by decide) rfl rfl).mono ?_
  rintro e w4 ⟨rfl, hb⟩
  have b4 : Below w3.heap.size w3 w4 := bthen (by (repeat' (first | exact Below.refl _ _ | refine Below.setCell ?_ (by first | omega | (simp; done) | (simp; omega)) _ | refine Below.alloc ?_ (by first | omega | (simp; done) | (simp; omega)) _))) hb
  have d4 : Below w.heap.size w w4 := bthen d3 b4
  have k4 : w.heap.size ≤ w4.heap.size := d4.size
  have x0_4 : w4.cell? ⟨w2.heap.size, 0, none⟩ = some (.int .u8 3) := (b4.cell (p := ⟨w2.heap.size, 0, none⟩) (by show w2.heap.size < w3.heap.size; omega)).trans x0_3
  have x1_4 : w4.cell? ⟨w2.heap.size, 1, none⟩ = some (.int .u8 1) := (b4.cell (p := ⟨w2.heap.size, 1, none⟩) (by show w2.heap.size < w3.heap.size; omega)).trans x1_3
  have x2_4 : w4.cell? ⟨w2.heap.size, 2, none⟩ = some (.int .u8 8) := (b4.cell (p := ⟨w2.heap.size, 2, none⟩) (by show w2.heap.size < w3.heap.size; omega)).trans x2_3
  have zx_4 : w2.heap.size < w4.heap.size := Nat.lt_of_lt_of_le zx_3 b4.size
  clear hb b4 d3 k3 x0_3 x1_3 x2_3 zx_3
  go_wp2_with fail
  refine (step_is (pkt 4 0) 3 1 8 1 4 0 (3, 2, 8) true _ (fa_pkt 4 0 (by decide) (by decide)) (HA.out.below (by (repeat' (first | with_reducible exact d4 | refine Below.setCell ?_ (by first | omega | (simp; done) | (simp; omega)) _ | refine Below.alloc ?_ (by first | omega | (simp; done) | (simp; omega)) _)))) (by decide) (by decide) (by decide) rfl rfl).mono ?_
  rintro e w5 ⟨rfl, hb⟩
  have b5 : Below w4.heap.size w4 w5 := bthen (by (repeat' (first | exact Below.refl _ _ | refine Below.setCell ?_ (by first | omega | (simp; done) | (simp; omega)) _ | refine Below.alloc ?_ (by first | omega | (simp; done) | (simp; omega)) _))) hb
  have d5 : Below w.heap.size w w5 := bthen d4 b5
  have k5 : w.heap.size ≤ w5.heap.size := d5.size
  have x0_5 : w5.cell? ⟨w2.heap.size, 0, none⟩ = some (.int .u8 3) := (b5.cell (p := ⟨w2.heap.size, 0, none⟩) (by show w2.heap.size < w4.heap.size; omega)).trans x0_4
  have x1_5 : w5.cell? ⟨w2.heap.size, 1, none⟩ = some (.int .u8 1) := (b5.cell (p := ⟨w2.heap.size, 1, none⟩) (by show w2.heap.size < w4.heap.size; omega)).trans x1_4
  have x2_5 : w5.cell? ⟨w2.heap.size, 2, none⟩ = some (.int .u8 8) := (b5.cell (p := ⟨w2.heap.size, 2, none⟩) (by show w2.heap.size < w4.heap.size; omega)).trans x2_4
  have zx_5 : w2.heap.size < w5.heap.size := Nat.lt_of_lt_of_le zx_4 b5.size
  clear hb b5 d4 k4 x0_4 x1_4 x2_4 zx_4
  go_wp2_with fail
  go_ret
  exact ⟨by first | rfl | simp, (by (repeat' (first | with_reducible exact d5 | refine Below.setCell ?_ (by first | omega | (simp; done) | (simp; omega)) _ | refine Below.alloc ?_ (by first | omega | (simp; done) | (simp; omega)) _)))⟩

set_option maxRecDepth 100000 in
set_option maxHeartbeats 4000000 in
theorem types_8_13 (w : World) (HA : Hid (Ans w)) :
    Calls Tryd.prog 5 #[.int .u8 8, .int .u8 13] w fun e w' => e = .returned (.bool true) ∧ Below w.heap.size w w' := by
  go_enter Tryd.func5, Tryd.ntmps5
  go_wp2_with fail
  refine (awake_any _ HA.out).mono ?_
  rintro e w1 ⟨rfl, hb⟩
  have b1 : Below w.heap.size w w1 := bthen (by (repeat' (first | exact Below.refl _ _ | refine Below.setCell ?_ (by first | omega | (simp; done) | (simp; omega)) _ | refine Below.alloc ?_ (by first | omega | (simp; done) | (simp; omega)) _))) hb
  have d1 : Below w.heap.size w w1 := b1
  have k1 : w.heap.size ≤ w1.heap.size := d1.size
  clear hb
  go_wp2_with fail
  refine (answer_is 8 0 true _ (by decide) (by decide) (HA.out.below (by (repeat' (first | with_reducible exact d1 | refine Below.setCell ?_ (by first | omega | (simp; done) | (simp; omega)) _ | refine Below.alloc ?_ (by first | omega | (simp; done) | (simp; omega)) _)))) rfl rfl).mono ?_
  rintro e w' ⟨rfl, rfl⟩
  go_wp2_with fail
  refine (answer_is 13 14 true _ (by decide) (by decide) (HA.out.below (by (repeat' (first | with_reducible exact d1 | refine Below.setCell ?_ (by first | omega | (simp; done) | (simp; omega)) _ | refine Below.alloc ?_ (by first | omega | (simp; done) | (simp; omega)) _)))) rfl rfl).mono ?_
  rintro e w' ⟨rfl, rfl⟩
  go_wp2_with fail
  refine (answer_is 0 0 false _ (by decide) (by decide) (HA.out.below (by (repeat' (first | with_reducible exact d1 | refine Below.setCell ?_ (by first | omega | (simp; done) | (simp; omega)) _ | refine Below.alloc ?_ (by first | omega | (simp; done) | (simp; omega)) _)))) rfl rfl).mono ?_
  rintro e w' ⟨rfl, rfl⟩
  go_wp2_with fail
  refine (open_is (pkt 3 8) 3 8 (3, 1, 8) true _ (fa_pkt 3 8 (by decide) (by decide)) (HA.out.below (by (repeat' (first | with_reducible exact d1 | refine Below.setCell ?_ (by first | omega | (simp; done) | (simp; omega)) _ | refine Below.alloc ?_ (by first | omega | (simp; done) | (simp; omega)) _)))) rfl rfl).mono ?_
  rintro e w2 ⟨rfl, hb⟩
  have b2 : Below w1.heap.size w1 w2 := bthen (by (repeat' (first | exact Below.refl _ _ | refine Below.setCell ?_ (by first | omega | (simp; done) | (simp; omega)) _ | refine Below.alloc ?_ (by first | omega | (simp; done) | (simp; omega)) _))) hb
  have d2 : Below w.heap.size w w2 := bthen d1 b2
  have k2 : w.heap.size ≤ w2.heap.size := d2.size
  clear hb b2 d1 k1
  go_wp2_with fail
  refine (open_is (pkt 4 8) 4 8 (0, 0, 0) false _ (fa_pkt 4 8 (by decide) (by decide)) (HA.out.below (by (repeat' (first | with_reducible exact d2 | refine Below.setCell ?_ (by first | omega | (simp; done) | (simp; omega)) _ | refine Below.alloc ?_ (by first | omega | (simp; done) | (simp; omega)) _)))) rfl rfl).mono ?_
  rintro e w3 ⟨rfl, hb⟩
  have b3 : Below w2.heap.size w2 w3 := bthen (by (repeat' (first | exact Below.refl _ _ | refine Below.setCell ?_ (by first | omega | (simp; done) | (simp; omega)) _ | refine Below.alloc ?_ (by first | omega | (simp; done) | (simp; omega)) _))) hb
  have d3 : Below w.heap.size w w3 := bthen d2 b3
  have k3 : w.heap.size ≤ w3.heap.size := d3.size
  have x0_3 : w3.cell? ⟨w2.heap.size, 0, none⟩ = some (.int .u8 3) := (hb.cell (p := ⟨w2.heap.size, 0, none⟩) (by first | (simp; done) | (simp; omega))).trans (by simp [go_sem])
  have x1_3 : w3.cell? ⟨w2.heap.size, 1, none⟩ = some (.int .u8 1) := (hb.cell (p := ⟨w2.heap.size, 1, none⟩) (by first | (simp; done) | (simp; omega))).trans (by simp [go_sem])
  have x2_3 : w3.cell? ⟨w2.heap.size, 2, none⟩ = some (.int .u8 8) := (hb.cell (p := ⟨w2.heap.size, 2, none⟩) (by first | (simp; done) | (simp; omega))).trans (by simp [go_sem])
  have zx_3 : w2.heap.size < w3.heap.size := by have := hb.size; simp at this; omega
  clear hb b3 d2 k2
  go_wp2_with fail
  refine (step_is (pkt 3 13) 3 1 8 0 3 13 (0, 0, 0) false _ (fa_pkt 3 13 (by decide) (by decide)) (HA.out.below (by (repeat' (first | with_reducible exact d3 | refine Below.setCell ?_ (by first | omega | (simp; done) | (simp; omega)) _ | refine Below.alloc ?_ (by first | omega | (simp; done) | (simp; omega)) _)))) (by decide) (by decide) (by decide) rfl rfl).mono ?_
  rintro e w4 ⟨rfl, hb⟩
  have b4 : Below w3.heap.size w3 w4 := bthen (by (repeat' (first | exact Below.refl _ _ | refine Below.setCell ?_ (by first | omega | (simp; done) | (simp; omega)) _ | refine Below.alloc ?_ (by first | omega | (simp; done) | (simp; omega)) _))) hb
  have d4 : Below w.heap.size w w4 := bthen d3 b4
  have k4 : w.heap.size ≤ w4.heap.size := d4.size
  have x0_4 : w4.cell? ⟨w2.heap.size, 0, none⟩ = some (.int .u8 3) := (b4.cell (p := ⟨w2.heap.size, 0, none⟩) (by show w2.heap.size < w3.heap.size; omega)).trans x0_3
  have x1_4 : w4.cell? ⟨w2.heap.size, 1, none⟩ = some (.int .u8 1) := (b4.cell (p := ⟨w2.heap.size, 1, none⟩) (by show w2.heap.size < w3.heap.size; omega)).trans x1_3
  have x2_4 : w4.cell? ⟨w2.heap.size, 2, none⟩ = some (.int .u8 8) := (b4.cell (p := ⟨w2.heap.size, 2, none⟩) (by show w2.heap.size < w3.heap.size; omega)).trans x2_3
  have zx_4 : w2.heap.size < w4.heap.size := Nat.lt_of_lt_of_le zx_3 b4.size
  clear hb b4 d3 k3 x0_3 x1_3 x2_3 zx_3
  go_wp2_with fail
  refine (step_is (pkt 4 14) 3 1 8 1 4 14 (0, 0, 0) false _ (fa_pkt 4 14 (by decide) (by decide)) (HA.out.below (by (repeat' (first | with_reducible exact d4 | refine Below.setCell ?_ (by first | omega | (simp; done) | (simp; omega)) _ | refine Below.alloc ?_ (by first | omega | (simp; done) | (simp; omega)) _)))) (by decide) (by decide) (by decide) rfl rfl).mono ?_
  rintro e w5 ⟨rfl, hb⟩
  have b5 : Below w4.heap.size w4 w5 := bthen (by (repeat' (first | exact Below.refl _ _ | refine Below.setCell ?_ (by first | omega | (simp; done) | (simp; omega)) _ | refine Below.alloc ?_ (by first | omega | (simp; done) | (simp; omega)) _))) hb
  have d5 : Below w.heap.size w w5 := bthen d4 b5
  have k5 : w.heap.size ≤ w5.heap.size := d5.size
  have x0_5 : w5.cell? ⟨w2.heap.size, 0, none⟩ = some (.int .u8 3) := (b5.cell (p := ⟨w2.heap.size, 0, none⟩) (by show w2.heap.size < w4.heap.size; omega)).trans x0_4
  have x1_5 : w5.cell? ⟨w2.heap.size, 1, none⟩ = some (.int .u8 1) := (b5.cell (p := ⟨w2.heap.size, 1, none⟩) (by show w2.heap.size < w4.heap.size; omega)).trans x1_4
  have x2_5 : w5.cell? ⟨w2.heap.size, 2, none⟩ = some (.int .u8 8) := (b5.cell (p := ⟨w2.heap.size, 2, none⟩) (by show w2.heap.size < w4.heap.size; omega)).trans x2_4
  have zx_5 : w2.heap.size < w5.heap.size := Nat.lt_of_lt_of_le zx_4 b5.size
  clear hb b5 d4 k4 x0_4 x1_4 x2_4 zx_4
  go_wp2_with fail
  go_ret
  exact ⟨by first | rfl | simp, (by (repeat' (first | with_reducible exact d5 | refine Below.setCell ?_ (by first | omega | (simp; done) | (simp; omega)) _ | refine Below.alloc ?_ (by first | omega | (simp; done) | (simp; omega)) _)))⟩

set_option maxRecDepth 100000 in
set_option maxHeartbeats 4000000 in
theorem types_8_17 (w : World) (HA : Hid (Ans w)) :
    Calls Tryd.prog 5 #[.int .u8 8, .int .u8 17] w fun e w' => e = .returned (.bool true) ∧ Below w.heap.size w w' := by
  go_enter Tryd.func5, Tryd.ntmps5
  go_wp2_with fail
  refine (awake_any _ HA.out).mono ?_
  rintro e w1 ⟨rfl, hb⟩
  have b1 : Below w.heap.size w w1 := bthen (by (repeat' (first | exact Below.refl _ _ | refine Below.setCell ?_ (by first | omega | (simp; done) | (simp; omega)) _ | refine Below.alloc ?_ (by first | omega | (simp; done) | (simp; omega)) _))) hb
  have d1 : Below w.heap.size w w1 := b1
  have k1 : w.heap.size ≤ w1.heap.size := d1.size
  clear hb
  go_wp2_with fail
  refine (answer_is 8 0 true _ (by decide) (by decide) (HA.out.below (by (repeat' (first | with_reducible exact d1 | refine Below.setCell ?_ (by first | omega | (simp; done) | (simp; omega)) _ | refine Below.alloc ?_ (by first | omega | (simp; done) | (simp; omega)) _)))) rfl rfl).mono ?_
  rintro e w' ⟨rfl, rfl⟩
  go_wp2_with fail
  refine (answer_is 17 18 true _ (by decide) (by decide) (HA.out.below (by (repeat' (first | with_reducible exact d1 | refine Below.setCell ?_ (by first | omega | (simp; done) | (simp; omega)) _ | refine Below.alloc ?_ (by first | omega | (simp; done) | (simp; omega)) _)))) rfl rfl).mono ?_
  rintro e w' ⟨rfl, rfl⟩
  go_wp2_with fail
  refine (answer_is 0 0 false _ (by decide) (by decide) (HA.out.below (by (repeat' (first | with_reducible exact d1 | refine Below.setCell ?_ (by first | omega | (simp; done) | (simp; omega)) _ | refine Below.alloc ?_ (by first | omega | (simp; done) | (simp; omega)) _)))) rfl rfl).mono ?_
  rintro e w' ⟨rfl, rfl⟩
  go_wp2_with fail
  refine (open_is (pkt 3 8) 3 8 (3, 1, 8) true _ (fa_pkt 3 8 (by decide) (by decide)) (HA.out.below (by (repeat' (first | with_reducible exact d1 | refine Below.setCell ?_ (by first | omega | (simp; done) | (simp; omega)) _ | refine Below.alloc ?_ (by first | omega | (simp; done) | (simp; omega)) _)))) rfl rfl).mono ?_
  rintro e w2 ⟨rfl, hb⟩
  have b2 : Below w1.heap.size w1 w2 := bthen (by (repeat' (first | exact Below.refl _ _ | refine Below.setCell ?_ (by first | omega | (simp; done) | (simp; omega)) _ | refine Below.alloc ?_ (by first | omega | (simp; done) | (simp; omega)) _))) hb
  have d2 : Below w.heap.size w w2 := bthen d1 b2
  have k2 : w.heap.size ≤ w2.heap.size := d2.size
  clear hb b2 d1 k1
  go_wp2_with fail
  refine (open_is (pkt 4 8) 4 8 (0, 0, 0) false _ (fa_pkt 4 8 (by decide) (by decide)) (HA.out.below (by (repeat' (first | with_reducible exact d2 | refine Below.setCell ?_ (by first | omega | (simp; done) | (simp; omega)) _ | refine Below.alloc ?_ (by first | omega | (simp; done) | (simp; omega)) _)))) rfl rfl).mono ?_
  rintro e w3 ⟨rfl, hb⟩
  have b3 : Below w2.heap.size w2 w3 := bthen (by (repeat' (first | exact Below.refl _ _ | refine Below.setCell ?_ (by first | omega | (simp; done) | (simp; omega)) _ | refine Below.alloc ?_ (by first | omega | (simp; done) | (simp; omega)) _))) hb
  have d3 : Below w.heap.size w w3 := bthen d2 b3
  have k3 : w.heap.size ≤ w3.heap.size := d3.size
  have x0_3 : w3.cell? ⟨w2.heap.size, 0, none⟩ = some (.int .u8 3) := (hb.cell (p := ⟨w2.heap.size, 0, none⟩) (by first | (simp; done) | (simp; omega))).trans (by simp [go_sem])
  have x1_3 : w3.cell? ⟨w2.heap.size, 1, none⟩ = some (.int .u8 1) := (hb.cell (p := ⟨w2.heap.size, 1, none⟩) (by first | (simp; done) | (simp; omega))).trans (by simp [go_sem])
  have x2_3 : w3.cell? ⟨w2.heap.size, 2, none⟩ = some (.int .u8 8) := (hb.cell (p := ⟨w2.heap.size, 2, none⟩) (by first | (simp; done) | (simp; omega))).trans (by simp [go_sem])
  have zx_3 : w2.heap.size < w3.heap.size := by have := hb.size; simp at this; omega
  clear hb b3 d2 k2
  go_wp2_with fail
  refine (step_is (pkt 3 17) 3 1 8 0 3 17 (0, 0, 0) false _ (fa_pkt 3 17 (by decide) (by decide)) (HA.out.below (by (repeat' (first | with_reducible exact d3 | refine Below.setCell ?_ (by first | omega | (simp; done) | (simp; omega)) _ | refine Below.alloc ?_ (by first | omega | (simp; done) | (simp; omega)) _)))) (by decide) (by decide) (by decide) rfl rfl).mono ?_
  rintro e w4 ⟨rfl, hb⟩
  have b4 : Below w3.heap.size w3 w4 := bthen (by (repeat' (first | exact Below.refl _ _ | refine Below.setCell ?_ (by first | omega | (simp; done) | (simp; omega)) _ | refine Below.alloc ?_ (by first | omega | (simp; done) | (simp; omega)) _))) hb
  have d4 : Below w.heap.size w w4 := bthen d3 b4
  have k4 : w.heap.size ≤ w4.heap.size := d4.size
  have x0_4 : w4.cell? ⟨w2.heap.size, 0, none⟩ = some (.int .u8 3) := (b4.cell (p := ⟨w2.heap.size, 0, none⟩) (by show w2.heap.size < w3.heap.size; omega)).trans x0_3
  have x1_4 : w4.cell? ⟨w2.heap.size, 1, none⟩ = some (.int .u8 1) := (b4.cell (p := ⟨w2.heap.size, 1, none⟩) (by show w2.heap.size < w3.heap.size; omega)).trans x1_3
  have x2_4 : w4.cell? ⟨w2.heap.size, 2, none⟩ = some (.int .u8 8) := (b4.cell (p := ⟨w2.heap.size, 2, none⟩) (by show w2.heap.size < w3.heap.size; omega)).trans x2_3
  have zx_4 : w2.heap.size < w4.heap.size := Nat.lt_of_lt_of_le zx_3 b4.size
  clear hb b4 d3 k3 x0_3 x1_3 x2_3 zx_3
  go_wp2_with fail
  refine (step_is (pkt 4 18) 3 1 8 1 4 18 (0, 0, 0) false _ (fa_pkt 4 18 (by decide) (by decide)) (HA.out.below (by (repeat' (first | with_reducible exact d4 | refine Below.setCell ?_ (by first | omega | (simp; done) | (simp; omega)) _ | refine Below.alloc ?_ (by first | omega | (simp; done) | (simp; omega)) _)))) (by decide) (by decide) (by decide) rfl rfl).mono ?_
  rintro e w5 ⟨rfl, hb⟩
  have b5 : Below w4.heap.size w4 w5 := bthen (by (repeat' (first | exact Below.refl _ _ | refine Below.setCell ?_ (by first | omega | (simp; done) | (simp; omega)) _ | refine Below.alloc ?_ (by first | omega | (simp; done) | (simp; omega)) _))) hb
  have d5 : Below w.heap.size w w5 := bthen d4 b5
  have k5 : w.heap.size ≤ w5.heap.size := d5.size
  have x0_5 : w5.cell? ⟨w2.heap.size, 0, none⟩ = some (.int .u8 3) := (b5.cell (p := ⟨w2.heap.size, 0, none⟩) (by show w2.heap.size < w4.heap.size; omega)).trans x0_4
  have x1_5 : w5.cell? ⟨w2.heap.size, 1, none⟩ = some (.int .u8 1) := (b5.cell (p := ⟨w2.heap.size, 1, none⟩) (by show w2.heap.size < w4.heap.size; omega)).trans x1_4
  have x2_5 : w5.cell? ⟨w2.heap.size, 2, none⟩ = some (.int .u8 8) := (b5.cell (p := ⟨w2.heap.size, 2, none⟩) (by show w2.heap.size < w4.heap.size; omega)).trans x2_4
  have zx_5 : w2.heap.size < w5.heap.size := Nat.lt_of_lt_of_le zx_4 b5.size
  clear hb b5 d4 k4 x0_4 x1_4 x2_4 zx_4
  go_wp2_with fail
  go_ret
  exact ⟨by first | rfl | simp, (by (repeat' (first | with_reducible exact d5 | refine Below.setCell ?_ (by first | omega | (simp; done) | (simp; omega)) _ | refine Below.alloc ?_ (by first | omega | (simp; done) | (simp; omega)) _)))⟩

set_option maxRecDepth 100000 in
set_option maxHeartbeats 4000000 in
theorem types_8_x (t : Int) (w : World) (HA : Hid (Ans w)) (ht : Hid (0 ≤ t ∧ t ≤ 255)) (htq : Hid (isq t = false)) (hta : Hid (ans t = 0)) (hne : ((8 : Int) == t) = false) (hal : Hid (alw 3 1 8 0 3 t = false)) :
    Calls Tryd.prog 5 #[.int .u8 8, .int .u8 t] w fun e w' => e = .returned (.bool true) ∧ Below w.heap.size w w' := by
  go_enter Tryd.func5, Tryd.ntmps5
  go_wp2_with fail
  refine (awake_any _ HA.out).mono ?_
  rintro e w1 ⟨rfl, hb⟩
  have b1 : Below w.heap.size w w1 := bthen (by (repeat' (first | exact Below.refl _ _ | refine Below.setCell ?_ (by first | omega | (simp; done) | (simp; omega)) _ | refine Below.alloc ?_ (by first | omega | (simp; done) | (simp; omega)) _))) hb
  have d1 : Below w.heap.size w w1 := b1
  have k1 : w.heap.size ≤ w1.heap.size := d1.size
  clear hb
  go_wp2_with fail
  refine (answer_is 8 0 true _ (by decide) (by decide) (HA.out.below (by (repeat' (first | with_reducible exact d1 | refine Below.setCell ?_ (by first | omega | (simp; done) | (simp; omega)) _ | refine Below.alloc ?_ (by first | omega | (simp; done) | (simp; omega)) _)))) rfl rfl).mono ?_
  rintro e w' ⟨rfl, rfl⟩
  go_wp2_with fail
  refine (answer_is t 0 false _ ht.out.1 ht.out.2 (HA.out.below (by (repeat' (first | with_reducible exact d1 | refine Below.setCell ?_ (by first | omega | (simp; done) | (simp; omega)) _ | refine Below.alloc ?_ (by first | omega | (simp; done) | (simp; omega)) _)))) hta.out htq.out).mono ?_
  rintro e w' ⟨rfl, rfl⟩
  go_wp2_with fail
  refine (answer_is 0 0 false _ (by decide) (by decide) (HA.out.below (by (repeat' (first | with_reducible exact d1 | refine Below.setCell ?_ (by first | omega | (simp; done) | (simp; omega)) _ | refine Below.alloc ?_ (by first | omega | (simp; done) | (simp; omega)) _)))) rfl rfl).mono ?_
  rintro e w' ⟨rfl, rfl⟩
  go_wp2_with fail
  refine (open_is (pkt 3 8) 3 8 (3, 1, 8) true _ (fa_pkt 3 8 (by decide) (by decide)) (HA.out.below (by (repeat' (first | with_reducible exact d1 | refine Below.setCell ?_ (by first | omega | (simp; done) | (simp; omega)) _ | refine Below.alloc ?_ (by first | omega | (simp; done) | (simp; omega)) _)))) rfl rfl).mono ?_
  rintro e w2 ⟨rfl, hb⟩
  have b2 : Below w1.heap.size w1 w2 := bthen (by (repeat' (first | exact Below.refl _ _ | refine Below.setCell ?_ (by first | omega | (simp; done) | (simp; omega)) _ | refine Below.alloc ?_ (by first | omega | (simp; done) | (simp; omega)) _))) hb
  have d2 : Below w.heap.size w w2 := bthen d1 b2
  have k2 : w.heap.size ≤ w2.heap.size := d2.size
  clear hb b2 d1 k1
  go_wp2_with fail
  refine (open_is (pkt 4 8) 4 8 (0, 0, 0) false _ (fa_pkt 4 8 (by decide) (by decide)) (HA.out.below (by (repeat' (first | with_reducible exact d2 | refine Below.setCell ?_ (by first | omega | (simp; done) | (simp; omega)) _ | refine Below.alloc ?_ (by first | omega | (simp; done) | (simp; omega)) _)))) rfl rfl).mono ?_
  rintro e w3 ⟨rfl, hb⟩
  have b3 : Below w2.heap.size w2 w3 := bthen (by (repeat' (first | exact Below.refl _ _ | refine Below.setCell ?_ (by first | omega | (simp; done) | (simp; omega)) _ | refine Below.alloc ?_ (by first | omega | (simp; done) | (simp; omega)) _))) hb
  have d3 : Below w.heap.size w w3 := bthen d2 b3
  have k3 : w.heap.size ≤ w3.heap.size := d3.size
  have x0_3 : w3.cell? ⟨w2.heap.size, 0, none⟩ = some (.int .u8 3) := (hb.cell (p := ⟨w2.heap.size, 0, none⟩) (by first | (simp; done) | (simp; omega))).trans (by simp [go_sem])
  have x1_3 : w3.cell? ⟨w2.heap.size, 1, none⟩ = some (.int .u8 1) := (hb.cell (p := ⟨w2.heap.size, 1, none⟩) (by first | (simp; done) | (simp; omega))).trans (by simp [go_sem])
  have x2_3 : w3.cell? ⟨w2.heap.size, 2, none⟩ = some (.int .u8 8) := (hb.cell (p := ⟨w2.heap.size, 2, none⟩) (by first | (simp; done) | (simp; omega))).trans (by simp [go_sem])
  have zx_3 : w2.heap.size < w3.heap.size := by have := hb.size; simp at this; omega
  clear hb b3 d2 k2
  go_wp2_with fail
  refine (step_is (pkt 3 t) 3 1 8 0 3 t (0, 0, 0) false _ (fa_pkt 3 t (by decide) ht.out) (HA.out.below (by (repeat' (first | with_reducible exact d3 | refine Below.setCell ?_ (by first | omega | (simp; done) | (simp; omega)) _ | refine Below.alloc ?_ (by first | omega | (simp; done) | (simp; omega)) _)))) (by decide) (by decide) (by decide) (by rw [stF, hal.out]; rfl) hal.out).mono ?_
  rintro e w4 ⟨rfl, hb⟩
  have b4 : Below w3.heap.size w3 w4 := bthen (by (repeat' (first | exact Below.refl _ _ | refine Below.setCell ?_ (by first | omega | (simp; done) | (simp; omega)) _ | refine Below.alloc ?_ (by first | omega | (simp; done) | (simp; omega)) _))) hb
  have d4 : Below w.heap.size w w4 := bthen d3 b4
  have k4 : w.heap.size ≤ w4.heap.size := d4.size
  have x0_4 : w4.cell? ⟨w2.heap.size, 0, none⟩ = some (.int .u8 3) := (b4.cell (p := ⟨w2.heap.size, 0, none⟩) (by show w2.heap.size < w3.heap.size; omega)).trans x0_3
  have x1_4 : w4.cell? ⟨w2.heap.size, 1, none⟩ = some (.int .u8 1) := (b4.cell (p := ⟨w2.heap.size, 1, none⟩) (by show w2.heap.size < w3.heap.size; omega)).trans x1_3
  have x2_4 : w4.cell? ⟨w2.heap.size, 2, none⟩ = some (.int .u8 8) := (b4.cell (p := ⟨w2.heap.size, 2, none⟩) (by show w2.heap.size < w3.heap.size; omega)).trans x2_3
  have zx_4 : w2.heap.size < w4.heap.size := Nat.lt_of_lt_of_le zx_3 b4.size
  clear hb b4 d3 k3 x0_3 x1_3 x2_3 zx_3
  go_wp2_with fail
  refine (step_is (pkt 4 0) 3 1 8 1 4 0 (3, 2, 8) true _ (fa_pkt 4 0 (by decide) (by decide)) (HA.out.below (by (repeat' (first | with_reducible exact d4 | refine Below.setCell ?_ (by first | omega | (simp; done) | (simp; omega)) _ | refine Below.alloc ?_ (by first | omega | (simp; done) | (simp; omega)) _)))) (by decide) (by decide) (by decide) rfl rfl).mono ?_
  rintro e w5 ⟨rfl, hb⟩
  have b5 : Below w4.heap.size w4 w5 := bthen (by (repeat' (first | exact Below.refl _ _ | refine Below.setCell ?_ (by first | omega | (simp; done) | (simp; omega)) _ | refine Below.alloc ?_ (by first | omega | (simp; done) | (simp; omega)) _))) hb
  have d5 : Below w.heap.size w w5 := bthen d4 b5
  have k5 : w.heap.size ≤ w5.heap.size := d5.size
  have x0_5 : w5.cell? ⟨w2.heap.size, 0, none⟩ = some (.int .u8 3) := (b5.cell (p := ⟨w2.heap.size, 0, none⟩) (by show w2.heap.size < w4.heap.size; omega)).trans x0_4
  have x1_5 : w5.cell? ⟨w2.heap.size, 1, none⟩ = some (.int .u8 1) := (b5.cell (p := ⟨w2.heap.size, 1, none⟩) (by show w2.heap.size < w4.heap.size; omega)).trans x1_4
  have x2_5 : w5.cell? ⟨w2.heap.size, 2, none⟩ = some (.int .u8 8) := (b5.cell (p := ⟨w2.heap.size, 2, none⟩) (by show w2.heap.size < w4.heap.size; omega)).trans x2_4
  have zx_5 : w2.heap.size < w5.heap.size := Nat.lt_of_lt_of_le zx_4 b5.size
  clear hb b5 d4 k4 x0_4 x1_4 x2_4 zx_4
  go_wp2_with fail
  go_ret
  exact ⟨by first | rfl | simp, (by (repeat' (first | with_reducible exact d5 | refine Below.setCell ?_ (by first | omega | (simp; done) | (simp; omega)) _ | refine Below.alloc ?_ (by first | omega | (simp; done) | (simp; omega)) _)))⟩

set_option maxRecDepth 100000 in
set_option maxHeartbeats 4000000 in
theorem types_13_8 (w : World) (HA : Hid (Ans w)) :
    Calls Tryd.prog 5 #[.int .u8 13, .int .u8 8] w fun e w' => e = .returned (.bool true) ∧ Below w.heap.size w w' := by
  go_enter Tryd.func5, Tryd.ntmps5
  go_wp2_with fail
  refine (awake_any _ HA.out).mono ?_
  rintro e w1 ⟨rfl, hb⟩
  have b1 : Below w.heap.size w w1 := bthen (by (repeat' (first | exact Below.refl _ _ | refine Below.setCell ?_ (by first | omega | (simp; done) | (simp; omega)) _ | refine Below.alloc ?_ (by first | omega | (simp; done) | (simp; omega)) _))) hb
  have d1 : Below w.heap.size w w1 := b1
  have k1 : w.heap.size ≤ w1.heap.size := d1.size
  clear hb
  go_wp2_with fail
  refine (answer_is 13 14 true _ (by decide) (by decide) (HA.out.below (by (repeat' (first | with_reducible exact d1 | refine Below.setCell ?_ (by first | omega | (simp; done) | (simp; omega)) _ | refine Below.alloc ?_ (by first | omega | (simp; done) | (simp; omega)) _)))) rfl rfl).mono ?_
  rintro e w' ⟨rfl, rfl⟩
  go_wp2_with fail
  refine (answer_is 8 0 true _ (by decide) (by decide) (HA.out.below (by (repeat' (first | with_reducible exact d1 | refine Below.setCell ?_ (by first | omega | (simp; done) | (simp; omega)) _ | refine Below.alloc ?_ (by first | omega | (simp; done) | (simp; omega)) _)))) rfl rfl).mono ?_
  rintro e w' ⟨rfl, rfl⟩
  go_wp2_with fail
  refine (answer_is 14 0 false _ (by decide) (by decide) (HA.out.below (by (repeat' (first | with_reducible exact d1 | refine Below.setCell ?_ (by first | omega | (simp; done) | (simp; omega)) _ | refine Below.alloc ?_ (by first | omega | (simp; done) | (simp; omega)) _)))) rfl rfl).mono ?_
  rintro e w' ⟨rfl, rfl⟩
  go_wp2_with fail
  refine (open_is (pkt 3 13) 3 13 (3, 1, 13) true _ (fa_pkt 3 13 (by decide) (by decide)) (HA.out.below (by (repeat' (first | with_reducible exact d1 | refine Below.setCell ?_ (by first | omega | (simp; done) | (simp; omega)) _ | refine Below.alloc ?_ (by first | omega | (simp; done) | (simp; omega)) _)))) rfl rfl).mono ?_
  rintro e w2 ⟨rfl, hb⟩
  have b2 : Below w1.heap.size w1 w2 := bthen (by (repeat' (first | exact Below.refl _ _ | refine Below.setCell ?_ (by first | omega | (simp; done) | (simp; omega)) _ | refine Below.alloc ?_ (by first | omega | (simp; done) | (simp; omega)) _))) hb
  have d2 : Below w.heap.size w w2 := bthen d1 b2
  have k2 : w.heap.size ≤ w2.heap.size := d2.size
  clear hb b2 d1 k1
  go_wp2_with fail
  refine (open_is (pkt 4 13) 4 13 (0, 0, 0) false _ (fa_pkt 4 13 (by decide) (by decide)) (HA.out.below (by (repeat' (first | with_reducible exact d2 | refine Below.setCell ?_ (by first | omega | (simp; done) | (simp; omega)) _ | refine Below.alloc ?_ (by first | omega | (simp; done) | (simp; omega)) _)))) rfl rfl).mono ?_
  rintro e w3 ⟨rfl, hb⟩
  have b3 : Below w2.heap.size w2 w3 := bthen (by (repeat' (first | exact Below.refl _ _ | refine Below.setCell ?_ (by first | omega | (simp; done) | (simp; omega)) _ | refine Below.alloc ?_ (by first | omega | (simp; done) | (simp; omega)) _))) hb
  have d3 : Below w.heap.size w w3 := bthen d2 b3
  have k3 : w.heap.size ≤ w3.heap.size := d3.size
  have x0_3 : w3.cell? ⟨w2.heap.size, 0, none⟩ = some (.int .u8 3) := (hb.cell (p := ⟨w2.heap.size, 0, none⟩) (by first | (simp; done) | (simp; omega))).trans (by simp [go_sem])
  have x1_3 : w3.cell? ⟨w2.heap.size, 1, none⟩ = some (.int .u8 1) := (hb.cell (p := ⟨w2.heap.size, 1, none⟩) (by first | (simp; done) | (simp; omega))).trans (by simp [go_sem])
  have x2_3 : w3.cell? ⟨w2.heap.size, 2, none⟩ = some (.int .u8 13) := (hb.cell (p := ⟨w2.heap.size, 2, none⟩) (by first | (simp; done) | (simp; omega))).trans (by simp [go_sem])
  have zx_3 : w2.heap.size < w3.heap.size := by have := hb.size; simp at this; omega
  clear hb b3 d2 k2
  go_wp2_with fail
  refine (step_is (pkt 3 8) 3 1 13 0 3 8 (0, 0, 0) false _ (fa_pkt 3 8 (by decide) (by decide)) (HA.out.below (by (repeat' (first | with_reducible exact d3 | refine Below.setCell ?_ (by first | omega | (simp; done) | (simp; omega)) _ | refine Below.alloc ?_ (by first | omega | (simp; done) | (simp; omega)) _)))) (by decide) (by decide) (by decide) rfl rfl).mono ?_
  rintro e w4 ⟨rfl, hb⟩
  have b4 : Below w3.heap.size w3 w4 := bthen (by (repeat' (first | exact Below.refl _ _ | refine Below.setCell ?_ (by first | omega | (simp; done) | (simp; omega)) _ | refine Below.alloc ?_ (by first | omega | (simp; done) | (simp; omega)) _))) hb
  have d4 : Below w.heap.size w w4 := bthen d3 b4
  have k4 : w.heap.size ≤ w4.heap.size := d4.size
  have x0_4 : w4.cell? ⟨w2.heap.size, 0, none⟩ = some (.int .u8 3) := (b4.cell (p := ⟨w2.heap.size, 0, none⟩) (by show w2.heap.size < w3.heap.size; omega)).trans x0_3
  have x1_4 : w4.cell? ⟨w2.heap.size, 1, none⟩ = some (.int .u8 1) := (b4.cell (p := ⟨w2.heap.size, 1, none⟩) (by show w2.heap.size < w3.heap.size; omega)).trans x1_3
  have x2_4 : w4.cell? ⟨w2.heap.size, 2, none⟩ = some (.int .u8 13) := (b4.cell (p := ⟨w2.heap.size, 2, none⟩) (by show w2.heap.size < w3.heap.size; omega)).trans x2_3
  have zx_4 : w2.heap.size < w4.heap.size := Nat.lt_of_lt_of_le zx_3 b4.size
  clear hb b4 d3 k3 x0_3 x1_3 x2_3 zx_3
  go_wp2_with fail
  refine (step_is (pkt 4 0) 3 1 13 1 4 0 (0, 0, 0) false _ (fa_pkt 4 0 (by decide) (by decide)) (HA.out.below (by (repeat' (first | with_reducible exact d4 | refine Below.setCell ?_ (by first | omega | (simp; done) | (simp; omega)) _ | refine Below.alloc ?_ (by first | omega | (simp; done) | (simp; omega)) _)))) (by decide) (by decide) (by decide) rfl rfl).mono ?_
  rintro e w5 ⟨rfl, hb⟩
  have b5 : Below w4.heap.size w4 w5 := bthen (by (repeat' (first | exact Below.refl _ _ | refine Below.setCell ?_ (by first | omega | (simp; done) | (simp; omega)) _ | refine Below.alloc ?_ (by first | omega | (simp; done) | (simp; omega)) _))) hb
  have d5 : Below w.heap.size w w5 := bthen d4 b5
  have k5 : w.heap.size ≤ w5.heap.size := d5.size
  have x0_5 : w5.cell? ⟨w2.heap.size, 0, none⟩ = some (.int .u8 3) := (b5.cell (p := ⟨w2.heap.size, 0, none⟩) (by show w2.heap.size < w4.heap.size; omega)).trans x0_4
  have x1_5 : w5.cell? ⟨w2.heap.size, 1, none⟩ = some (.int .u8 1) := (b5.cell (p := ⟨w2.heap.size, 1, none⟩) (by show w2.heap.size < w4.heap.size; omega)).trans x1_4
  have x2_5 : w5.cell? ⟨w2.heap.size, 2, none⟩ = some (.int .u8 13) := (b5.cell (p := ⟨w2.heap.size, 2, none⟩) (by show w2.heap.size < w4.heap.size; omega)).trans x2_4
  have zx_5 : w2.heap.size < w5.heap.size := Nat.lt_of_lt_of_le zx_4 b5.size
  clear hb b5 d4 k4 x0_4 x1_4 x2_4 zx_4
  go_wp2_with fail
  go_ret
  exact ⟨by first | rfl | simp, (by (repeat' (first | with_reducible exact d5 | refine Below.setCell ?_ (by first | omega | (simp; done) | (simp; omega)) _ | refine Below.alloc ?_ (by first | omega | (simp; done) | (simp; omega)) _)))⟩

set_option maxRecDepth 100000 in
set_option maxHeartbeats 4000000 in
theorem types_13_13 (w : World) (HA : Hid (Ans w)) :
    Calls Tryd.prog 5 #[.int .u8 13, .int .u8 13] w fun e w' => e = .returned (.bool true) ∧ Below w.heap.size w w' := by
  go_enter Tryd.func5, Tryd.ntmps5
  go_wp2_with fail
  refine (awake_any _ HA.out).mono ?_
  rintro e w1 ⟨rfl, hb⟩
  have b1 : Below w.heap.size w w1 := bthen (by (repeat' (first | exact Below.refl _ _ | refine Below.setCell ?_ (by first | omega | (simp; done) | (simp; omega)) _ | refine Below.alloc ?_ (by first | omega | (simp; done) | (simp; omega)) _))) hb
  have d1 : Below w.heap.size w w1 := b1
  have k1 : w.heap.size ≤ w1.heap.size := d1.size
  clear hb
  go_wp2_with fail
  refine (answer_is 13 14 true _ (by decide) (by decide) (HA.out.below (by (repeat' (first | with_reducible exact d1 | refine Below.setCell ?_ (by first | omega | (simp; done) | (simp; omega)) _ | refine Below.alloc ?_ (by first | omega | (simp; done) | (simp; omega)) _)))) rfl rfl).mono ?_
  rintro e w' ⟨rfl, rfl⟩
  go_wp2_with fail
  refine (answer_is 13 14 true _ (by decide) (by decide) (HA.out.below (by (repeat' (first | with_reducible exact d1 | refine Below.setCell ?_ (by first | omega | (simp; done) | (simp; omega)) _ | refine Below.alloc ?_ (by first | omega | (simp; done) | (simp; omega)) _)))) rfl rfl).mono ?_
  rintro e w' ⟨rfl, rfl⟩
  go_wp2_with fail
  refine (answer_is 14 0 false _ (by decide) (by decide) (HA.out.below (by (repeat' (first | with_reducible exact d1 | refine Below.setCell ?_ (by first | omega | (simp; done) | (simp; omega)) _ | refine Below.alloc ?_ (by first | omega | (simp; done) | (simp; omega)) _)))) rfl rfl).mono ?_
  rintro e w' ⟨rfl, rfl⟩
  go_wp2_with fail
  refine (open_is (pkt 3 13) 3 13 (3, 1, 13) true _ (fa_pkt 3 13 (by decide) (by decide)) (HA.out.below (by (repeat' (first | with_reducible exact d1 | refine Below.setCell ?_ (by first | omega | (simp; done) | (simp; omega)) _ | refine Below.alloc ?_ (by first | omega | (simp; done) | (simp; omega)) _)))) rfl rfl).mono ?_
  rintro e w2 ⟨rfl, hb⟩
  have b2 : Below w1.heap.size w1 w2 := bthen (by (repeat' (first | exact Below.refl _ _ | refine Below.setCell ?_ (by first | omega | (simp; done) | (simp; omega)) _ | refine Below.alloc ?_ (by first | omega | (simp; done) | (simp; omega)) _))) hb
  have d2 : Below w.heap.size w w2 := bthen d1 b2
  have k2 : w.heap.size ≤ w2.heap.size := d2.size
  clear hb b2 d1 k1
  go_wp2_with fail
  refine (open_is (pkt 4 13) 4 13 (0, 0, 0) false _ (fa_pkt 4 13 (by decide) (by decide)) (HA.out.below (by (repeat' (first | with_reducible exact d2 | refine Below.setCell ?_ (by first | omega | (simp; done) | (simp; omega)) _ | refine Below.alloc ?_ (by first | omega | (simp; done) | (simp; omega)) _)))) rfl rfl).mono ?_
  rintro e w3 ⟨rfl, hb⟩
  have b3 : Below w2.heap.size w2 w3 := bthen (by (repeat' (first | exact Below.refl _ _ | refine Below.setCell ?_ (by first | omega | (simp; done) | (simp; omega)) _ | refine Below.alloc ?_ (by first | omega | (simp; done) | (simp; omega)) _))) hb
  have d3 : Below w.heap.size w w3 := bthen d2 b3
  have k3 : w.heap.size ≤ w3.heap.size := d3.size
  have x0_3 : w3.cell? ⟨w2.heap.size, 0, none⟩ = some (.int .u8 3) := (hb.cell (p := ⟨w2.heap.size, 0, none⟩) (by first | (simp; done) | (simp; omega))).trans (by simp [go_sem])
  have x1_3 : w3.cell? ⟨w2.heap.size, 1, none⟩ = some (.int .u8 1) := (hb.cell (p := ⟨w2.heap.size, 1, none⟩) (by first | (simp; done) | (simp; omega))).trans (by simp [go_sem])
  have x2_3 : w3.cell? ⟨w2.heap.size, 2, none⟩ = some (.int .u8 13) := (hb.cell (p := ⟨w2.heap.size, 2, none⟩) (by first | (simp; done) | (simp; omega))).trans (by simp [go_sem])
  have zx_3 : w2.heap.size < w3.heap.size := by have := hb.size; simp at this; omega
  clear hb b3 d2 k2
  go_wp2_with fail
  refine (step_is (pkt 3 13) 3 1 13 0 3 13 (3, 1, 13) true _ (fa_pkt 3 13 (by decide) (by decide)) (HA.out.below (by (repeat' (first | with_reducible exact d3 | refine Below.setCell ?_ (by first | omega | (simp; done) | (simp; omega)) _ | refine Below.alloc ?_ (by first | omega | (simp; done) | (simp; omega)) _)))) (by decide) (by decide) (by decide) rfl rfl).mono ?_
  rintro e w4 ⟨rfl, hb⟩
  have b4 : Below w3.heap.size w3 w4 := bthen (by (repeat' (first | exact Below.refl _ _ | refine Below.setCell ?_ (by first | omega | (simp; done) | (simp; omega)) _ | refine Below.alloc ?_ (by first | omega | (simp; done) | (simp; omega)) _))) hb
  have d4 : Below w.heap.size w w4 := bthen d3 b4
  have k4 : w.heap.size ≤ w4.heap.size := d4.size
  have x0_4 : w4.cell? ⟨w2.heap.size, 0, none⟩ = some (.int .u8 3) := (b4.cell (p := ⟨w2.heap.size, 0, none⟩) (by show w2.heap.size < w3.heap.size; omega)).trans x0_3
  have x1_4 : w4.cell? ⟨w2.heap.size, 1, none⟩ = some (.int .u8 1) := (b4.cell (p := ⟨w2.heap.size, 1, none⟩) (by show w2.heap.size < w3.heap.size; omega)).trans x1_3
  have x2_4 : w4.cell? ⟨w2.heap.size, 2, none⟩ = some (.int .u8 13) := (b4.cell (p := ⟨w2.heap.size, 2, none⟩) (by show w2.heap.size < w3.heap.size; omega)).trans x2_3
  have zx_4 : w2.heap.size < w4.heap.size := Nat.lt_of_lt_of_le zx_3 b4.size
  clear hb b4 d3 k3 x0_3 x1_3 x2_3 zx_3
  go_wp2_with fail
  refine (step_is (pkt 4 14) 3 1 13 1 4 14 (3, 2, 13) true _ (fa_pkt 4 14 (by decide) (by decide)) (HA.out.below (by (repeat' (first | with_reducible exact d4 | refine Below.setCell ?_ (by first | omega | (simp; done) | (simp; omega)) _ | refine Below.alloc ?_ (by first | omega | (simp; done) | (simp; omega)) _)))) (by decide) (by decide) (by decide) rfl rfl).mono ?_
  rintro e w5 ⟨rfl, hb⟩
  have b5 : Below w4.heap.size w4 w5 := bthen (by (repeat' (first | exact Below.refl _ _ | refine Below.setCell ?_ (by first | omega | (simp; done) | (simp; omega)) _ | refine Below.alloc ?_ (by first | omega | (simp; done) | (simp; omega)) _))) hb
  have d5 : Below w.heap.size w w5 := bthen d4 b5
  have k5 : w.heap.size ≤ w5.heap.size := d5.size
  have x0_5 : w5.cell? ⟨w2.heap.size, 0, none⟩ = some (.int .u8 3) := (b5.cell (p := ⟨w2.heap.size, 0, none⟩) (by show w2.heap.size < w4.heap.size; omega)).trans x0_4
  have x1_5 : w5.cell? ⟨w2.heap.size, 1, none⟩ = some (.int .u8 1) := (b5.cell (p := ⟨w2.heap.size, 1, none⟩) (by show w2.heap.size < w4.heap.size; omega)).trans x1_4
  have x2_5 : w5.cell? ⟨w2.heap.size, 2, none⟩ = some (.int .u8 13) := (b5.cell (p := ⟨w2.heap.size, 2, none⟩) (by show w2.heap.size < w4.heap.size; omega)).trans x2_4
  have zx_5 : w2.heap.size < w5.heap.size := Nat.lt_of_lt_of_le zx_4 b5.size
  clear hb b5 d4 k4 x0_4 x1_4 x2_4 zx_4
  go_wp2_with fail
  go_ret
  exact ⟨by first | rfl | simp, (by (repeat' (first | with_reducible exact d5 | refine Below.setCell ?_ (by first | omega | (simp; done) | (simp; omega)) _ | refine Below.alloc ?_ (by first | omega | (simp; done) | (simp; omega)) _)))⟩

set_option maxRecDepth 100000 in
set_option maxHeartbeats 4000000 in
theorem types_13_17 (w : World) (HA : Hid (Ans w)) :
    Calls Tryd.prog 5 #[.int .u8 13, .int .u8 17] w fun e w' => e = .returned (.bool true) ∧ Below w.heap.size w w' := by
  go_enter Tryd.func5, Tryd.ntmps5
  go_wp2_with fail
  refine (awake_any _ HA.out).mono ?_
  rintro e w1 ⟨rfl, hb⟩
  have b1 : Below w.heap.size w w1 := bthen (by (repeat' (first | exact Below.refl _ _ | refine Below.setCell ?_ (by first | omega | (simp; done) | (simp; omega)) _ | refine Below.alloc ?_ (by first | omega | (simp; done) | (simp; omega)) _))) hb
  have d1 : Below w.heap.size w w1 := b1
  have k1 : w.heap.size ≤ w1.heap.size := d1.size
  clear hb
  go_wp2_with fail
  refine (answer_is 13 14 true _ (by decide) (by decide) (HA.out.below (by (repeat' (first | with_reducible exact d1 | refine Below.setCell ?_ (by first | omega | (simp; done) | (simp; omega)) _ | refine Below.alloc ?_ (by first | omega | (simp; done) | (simp; omega)) _)))) rfl rfl).mono ?_
  rintro e w' ⟨rfl, rfl⟩
  go_wp2_with fail
  refine (answer_is 17 18 true _ (by decide) (by decide) (HA.out.below (by (repeat' (first | with_reducible exact d1 | refine Below.setCell ?_ (by first | omega | (simp; done) | (simp; omega)) _ | refine Below.alloc ?_ (by first | omega | (simp; done) | (simp; omega)) _)))) rfl rfl).mono ?_
  rintro e w' ⟨rfl, rfl⟩
  go_wp2_with fail
  refine (answer_is 14 0 false _ (by decide) (by decide) (HA.out.below (by (repeat' (first | with_reducible exact d1 | refine Below.setCell ?_ (by first | omega | (simp; done) | (simp; omega)) _ | refine Below.alloc ?_ (by first | omega | (simp; done) | (simp; omega)) _)))) rfl rfl).mono ?_
  rintro e w' ⟨rfl, rfl⟩
  go_wp2_with fail
  refine (open_is (pkt 3 13) 3 13 (3, 1, 13) true _ (fa_pkt 3 13 (by decide) (by decide)) (HA.out.below (by (repeat' (first | with_reducible exact d1 | refine Below.setCell ?_ (by first | omega | (simp; done) | (simp; omega)) _ | refine Below.alloc ?_ (by first | omega | (simp; done) | (simp; omega)) _)))) rfl rfl).mono ?_
  rintro e w2 ⟨rfl, hb⟩
  have b2 : Below w1.heap.size w1 w2 := bthen (by (repeat' (first | exact Below.refl _ _ | refine Below.setCell ?_ (by first | omega | (simp; done) | (simp; omega)) _ | refine Below.alloc ?_ (by first | omega | (simp; done) | (simp; omega)) _))) hb
  have d2 : Below w.heap.size w w2 := bthen d1 b2
  have k2 : w.heap.size ≤ w2.heap.size := d2.size
  clear hb b2 d1 k1
  go_wp2_with fail
  refine (open_is (pkt 4 13) 4 13 (0, 0, 0) false _ (fa_pkt 4 13 (by decide) (by decide)) (HA.out.below (by (repeat' (first | with_reducible exact d2 | refine Below.setCell ?_ (by first | omega | (simp; done) | (simp; omega)) _ | refine Below.alloc ?_ (by first | omega | (simp; done) | (simp; omega)) _)))) rfl rfl).mono ?_
  rintro e w3 ⟨rfl, hb⟩
  have b3 : Below w2.heap.size w2 w3 := bthen (by (repeat' (first | exact Below.refl _ _ | refine Below.setCell ?_ (by first | omega | (simp; done) | (simp; omega)) _ | refine Below.alloc ?_ (by first | omega | (simp; done) | (simp; omega)) _))) hb
  have d3 : Below w.heap.size w w3 := bthen d2 b3
  have k3 : w.heap.size ≤ w3.heap.size := d3.size
  have x0_3 : w3.cell? ⟨w2.heap.size, 0, none⟩ = some (.int .u8 3) := (hb.cell (p := ⟨w2.heap.size, 0, none⟩) (by first | (simp; done) | (simp; omega))).trans (by simp [go_sem])
  have x1_3 : w3.cell? ⟨w2.heap.size, 1, none⟩ = some (.int .u8 1) := (hb.cell (p := ⟨w2.heap.size, 1, none⟩) (by first | (simp; done) | (simp; omega))).trans (by simp [go_sem])
  have x2_3 : w3.cell? ⟨w2.heap.size, 2, none⟩ = some (.int .u8 13) := (hb.cell (p := ⟨w2.heap.size, 2, none⟩) (by first | (simp; done) | (simp; omega))).trans (by simp [go_sem])
  have zx_3 : w2.heap.size < w3.heap.size := by have := hb.size; simp at this; omega
  clear hb b3 d2 k2
  go_wp2_with fail
  refine (step_is (pkt 3 17) 3 1 13 0 3 17 (0, 0, 0) false _ (fa_pkt 3 17 (by decide) (by decide)) (HA.out.below (by (repeat' (first | with_reducible exact d3 | refine Below.setCell ?_ (by first | omega | (simp; done) | (simp; omega)) _ | refine Below.alloc ?_ (by first | omega | (simp; done) | (simp; omega)) _)))) (by decide) (by decide) (by decide) rfl rfl).mono ?_
  rintro e w4 ⟨rfl, hb⟩
  have b4 : Below w3.heap.size w3 w4 := bthen (by (repeat' (first | exact Below.refl _ _ | refine Below.setCell ?_ (by first | omega | (simp; done) | (simp; omega)) _ | refine Below.alloc ?_ (by first | omega | (simp; done) | (simp; omega)) _))) hb
  have d4 : Below w.heap.size w w4 := bthen d3 b4
  have k4 : w.heap.size ≤ w4.heap.size := d4.size
  have x0_4 : w4.cell? ⟨w2.heap.size, 0, none⟩ = some (.int .u8 3) := (b4.cell (p := ⟨w2.heap.size, 0, none⟩) (by show w2.heap.size < w3.heap.size; omega)).trans x0_3
  have x1_4 : w4.cell? ⟨w2.heap.size, 1, none⟩ = some (.int .u8 1) := (b4.cell (p := ⟨w2.heap.size, 1, none⟩) (by show w2.heap.size < w3.heap.size; omega)).trans x1_3
  have x2_4 : w4.cell? ⟨w2.heap.size, 2, none⟩ = some (.int .u8 13) := (b4.cell (p := ⟨w2.heap.size, 2, none⟩) (by show w2.heap.size < w3.heap.size; omega)).trans x2_3
  have zx_4 : w2.heap.size < w4.heap.size := Nat.lt_of_lt_of_le zx_3 b4.size
  clear hb b4 d3 k3 x0_3 x1_3 x2_3 zx_3
  go_wp2_with fail
  refine (step_is (pkt 4 18) 3 1 13 1 4 18 (0, 0, 0) false _ (fa_pkt 4 18 (by decide) (by decide)) (HA.out.below (by (repeat' (first | with_reducible exact d4 | refine Below.setCell ?_ (by first | omega | (simp; done) | (simp; omega)) _ | refine Below.alloc ?_ (by first | omega | (simp; done) | (simp; omega)) _)))) (by decide) (by decide) (by decide) rfl rfl).mono ?_
  rintro e w5 ⟨rfl, hb⟩
  have b5 : Below w4.heap.size w4 w5 := bthen (by (repeat' (first | exact Below.refl _ _ | refine Below.setCell ?_ (by first | omega | (simp; done) | (simp; omega)) _ | refine Below.alloc ?_ (by first | omega | (simp; done) | (simp; omega)) _))) hb
  have d5 : Below w.heap.size w w5 := bthen d4 b5
  have k5 : w.heap.size ≤ w5.heap.size := d5.size
  have x0_5 : w5.cell? ⟨w2.heap.size, 0, none⟩ = some (.int .u8 3) := (b5.cell (p := ⟨w2.heap.size, 0, none⟩) (by show w2.heap.size < w4.heap.size; omega)).trans x0_4
  have x1_5 : w5.cell? ⟨w2.heap.size, 1, none⟩ = some (.int .u8 1) := (b5.cell (p := ⟨w2.heap.size, 1, none⟩) (by show w2.heap.size < w4.heap.size; omega)).trans x1_4
  have x2_5 : w5.cell? ⟨w2.heap.size, 2, none⟩ = some (.int .u8 13) := (b5.cell (p := ⟨w2.heap.size, 2, none⟩) (by show w2.heap.size < w4.heap.size; omega)).trans x2_4
  have zx_5 : w2.heap.size < w5.heap.size := Nat.lt_of_lt_of_le zx_4 b5.size
  clear hb b5 d4 k4 x0_4 x1_4 x2_4 zx_4
  go_wp2_with fail
  go_ret
  exact ⟨by first | rfl | simp, (by (repeat' (first | with_reducible exact d5 | refine Below.setCell ?_ (by first | omega | (simp; done) | (simp; omega)) _ | refine Below.alloc ?_ (by first | omega | (simp; done) | (simp; omega)) _)))⟩

set_option maxRecDepth 100000 in
set_option maxHeartbeats 4000000 in
theorem types_13_x (t : Int) (w : World) (HA : Hid (Ans w)) (ht : Hid (0 ≤ t ∧ t ≤ 255)) (htq : Hid (isq t = false)) (hta : Hid (ans t = 0)) (hne : ((13 : Int) == t) = false) (hal : Hid (alw 3 1 13 0 3 t = false)) :
    Calls Tryd.prog 5 #[.int .u8 13, .int .u8 t] w fun e w' => e = .returned (.bool true) ∧ Below w.heap.size w w' := by
  go_enter Tryd.func5, Tryd.ntmps5
  go_wp2_with fail
  refine (awake_any _ HA.out).mono ?_
  rintro e w1 ⟨rfl, hb⟩
  have b1 : Below w.heap.size w w1 := bthen (by (repeat' (first | exact Below.refl _ _ | refine Below.setCell ?_ (by first | omega | (simp; done) | (simp; omega)) _ | refine Below.alloc ?_ (by first | omega | (simp; done) | (simp; omega)) _))) hb
  have d1 : Below w.heap.size w w1 := b1
  have k1 : w.heap.size ≤ w1.heap.size := d1.size
  clear hb
  go_wp2_with fail
  refine (answer_is 13 14 true _ (by decide) (by decide) (HA.out.below (by (repeat' (first | with_reducible exact d1 | refine Below.setCell ?_ (by first | omega | (simp; done) | (simp; omega)) _ | refine Below.alloc ?_ (by first | omega | (simp; done) | (simp; omega)) _)))) rfl rfl).mono ?_
  rintro e w' ⟨rfl, rfl⟩
  go_wp2_with fail
  refine (answer_is t 0 false _ ht.out.1 ht.out.2 (HA.out.below (by (repeat' (first | with_reducible exact d1 | refine Below.setCell ?_ (by first | omega | (simp; done) | (simp; omega)) _ | refine Below.alloc ?_ (by first | omega | (simp; done) | (simp; omega)) _)))) hta.out htq.out).mono ?_
  rintro e w' ⟨rfl, rfl⟩
  go_wp2_with fail
  refine (answer_is 14 0 false _ (by decide) (by decide) (HA.out.below (by (repeat' (first | with_reducible exact d1 | refine Below.setCell ?_ (by first | omega | (simp; done) | (simp; omega)) _ | refine Below.alloc ?_ (by first | omega | (simp; done) | (simp; omega)) _)))) rfl rfl).mono ?_
  rintro e w' ⟨rfl, rfl⟩
  go_wp2_with fail
  refine (open_is (pkt 3 13) 3 13 (3, 1, 13) true _ (fa_pkt 3 13 (by decide) (by decide)) (HA.out.below (by (repeat' (first | with_reducible exact d1 | refine Below.setCell ?_ (by first | omega | (simp; done) | (simp; omega)) _ | refine Below.alloc ?_ (by first | omega | (simp; done) | (simp; omega)) _)))) rfl rfl).mono ?_
  rintro e w2 ⟨rfl, hb⟩
  have b2 : Below w1.heap.size w1 w2 := bthen (by (repeat' (first | exact Below.refl _ _ | refine Below.setCell ?_ (by first | omega | (simp; done) | (simp; omega)) _ | refine Below.alloc ?_ (by first | omega | (simp; done) | (simp; omega)) _))) hb
  have d2 : Below w.heap.size w w2 := bthen d1 b2
  have k2 : w.heap.size ≤ w2.heap.size := d2.size
  clear hb b2 d1 k1
  go_wp2_with fail
  refine (open_is (pkt 4 13) 4 13 (0, 0, 0) false _ (fa_pkt 4 13 (by decide) (by decide)) (HA.out.below (by (repeat' (first | with_reducible exact d2 | refine Below.setCell ?_ (by first | omega | (simp; done) | (simp; omega)) _ | refine Below.alloc ?_ (by first | omega | (simp; done) | (simp; omega)) _)))) rfl rfl).mono ?_
  rintro e w3 ⟨rfl, hb⟩
  have b3 : Below w2.heap.size w2 w3 := bthen (by (repeat' (first | exact Below.refl _ _ | refine Below.setCell ?_ (by first | omega | (simp; done) | (simp; omega)) _ | refine Below.alloc ?_ (by first | omega | (simp; done) | (simp; omega)) _))) hb
  have d3 : Below w.heap.size w w3 := bthen d2 b3
  have k3 : w.heap.size ≤ w3.heap.size := d3.size
  have x0_3 : w3.cell? ⟨w2.heap.size, 0, none⟩ = some (.int .u8 3) := (hb.cell (p := ⟨w2.heap.size, 0, none⟩) (by first | (simp; done) | (simp; omega))).trans (by simp [go_sem])
  have x1_3 : w3.cell? ⟨w2.heap.size, 1, none⟩ = some (.int .u8 1) := (hb.cell (p := ⟨w2.heap.size, 1, none⟩) (by first | (simp; done) | (simp; omega))).trans (by simp [go_sem])
  have x2_3 : w3.cell? ⟨w2.heap.size, 2, none⟩ = some (.int .u8 13) := (hb.cell (p := ⟨w2.heap.size, 2, none⟩) (by first | (simp; done) | (simp; omega))).trans (by simp [go_sem])
  have zx_3 : w2.heap.size < w3.heap.size := by have := hb.size; simp at this; omega
  clear hb b3 d2 k2
  go_wp2_with fail
  refine (step_is (pkt 3 t) 3 1 13 0 3 t (0, 0, 0) false _ (fa_pkt 3 t (by decide) ht.out) (HA.out.below (by (repeat' (first | with_reducible exact d3 | refine Below.setCell ?_ (by first | omega | (simp; done) | (simp; omega)) _ | refine Below.alloc ?_ (by first | omega | (simp; done) | (simp; omega)) _)))) (by decide) (by decide) (by decide) (by rw [stF, hal.out]; rfl) hal.out).mono ?_
  rintro e w4 ⟨rfl, hb⟩
  have b4 : Below w3.heap.size w3 w4 := bthen (by (repeat' (first | exact Below.refl _ _ | refine Below.setCell ?_ (by first | omega | (simp; done) | (simp; omega)) _ | refine Below.alloc ?_ (by first | omega | (simp; done) | (simp; omega)) _))) hb
  have d4 : Below w.heap.size w w4 := bthen d3 b4
  have k4 : w.heap.size ≤ w4.heap.size := d4.size
  have x0_4 : w4.cell? ⟨w2.heap.size, 0, none⟩ = some (.int .u8 3) := (b4.cell (p := ⟨w2.heap.size, 0, none⟩) (by show w2.heap.size < w3.heap.size; omega)).trans x0_3
  have x1_4 : w4.cell? ⟨w2.heap.size, 1, none⟩ = some (.int .u8 1) := (b4.cell (p := ⟨w2.heap.size, 1, none⟩) (by show w2.heap.size < w3.heap.size; omega)).trans x1_3
  have x2_4 : w4.cell? ⟨w2.heap.size, 2, none⟩ = some (.int .u8 13) := (b4.cell (p := ⟨w2.heap.size, 2, none⟩) (by show w2.heap.size < w3.heap.size; omega)).trans x2_3
  have zx_4 : w2.heap.size < w4.heap.size := Nat.lt_of_lt_of_le zx_3 b4.size
  clear hb b4 d3 k3 x0_3 x1_3 x2_3 zx_3
  go_wp2_with fail
  refine (step_is (pkt 4 0) 3 1 13 1 4 0 (0, 0, 0) false _ (fa_pkt 4 0 (by decide) (by decide)) (HA.out.below (by (repeat' (first | with_reducible exact d4 | refine Below.setCell ?_ (by first | omega | (simp; done) | (simp; omega)) _ | refine Below.alloc ?_ (by first | omega | (simp; done) | (simp; omega)) _)))) (by decide) (by decide) (by decide) rfl rfl).mono ?_
  rintro e w5 ⟨rfl, hb⟩
  have b5 : Below w4.heap.size w4 w5 := bthen (by (repeat' (first | exact Below.refl _ _ | refine Below.setCell ?_ (by first | omega | (simp; done) | (simp; omega)) _ | refine Below.alloc ?_ (by first | omega | (simp; done) | (simp; omega)) _))) hb
  have d5 : Below w.heap.size w w5 := bthen d4 b5
  have k5 : w.heap.size ≤ w5.heap.size := d5.size
  have x0_5 : w5.cell? ⟨w2.heap.size, 0, none⟩ = some (.int .u8 3) := (b5.cell (p := ⟨w2.heap.size, 0, none⟩) (by show w2.heap.size < w4.heap.size; omega)).trans x0_4
  have x1_5 : w5.cell? ⟨w2.heap.size, 1, none⟩ = some (.int .u8 1) := (b5.cell (p := ⟨w2.heap.size, 1, none⟩) (by show w2.heap.size < w4.heap.size; omega)).trans x1_4
  have x2_5 : w5.cell? ⟨w2.heap.size, 2, none⟩ = some (.int .u8 13) := (b5.cell (p := ⟨w2.heap.size, 2, none⟩) (by show w2.heap.size < w4.heap.size; omega)).trans x2_4
  have zx_5 : w2.heap.size < w5.heap.size := Nat.lt_of_lt_of_le zx_4 b5.size
  clear hb b5 d4 k4 x0_4 x1_4 x2_4 zx_4
  go_wp2_with fail
  go_ret
  exact ⟨by first | rfl | simp, (by (repeat' (first | with_reducible exact d5 | refine Below.setCell ?_ (by first | omega | (simp; done) | (simp; omega)) _ | refine Below.alloc ?_ (by first | omega | (simp; done) | (simp; omega)) _)))⟩

set_option maxRecDepth 100000 in
set_option maxHeartbeats 4000000 in
theorem types_17_8 (w : World) (HA : Hid (Ans w)) :
    Calls Tryd.prog 5 #[.int .u8 17, .int .u8 8] w fun e w' => e = .returned (.bool true) ∧ Below w.heap.size w w' := by
  go_enter Tryd.func5, Tryd.ntmps5
  go_wp2_with fail
  refine (awake_any _ HA.out).mono ?_
  rintro e w1 ⟨rfl, hb⟩
  have b1 : Below w.heap.size w w1 := bthen (by (repeat' (first | exact Below.refl _ _ | refine Below.setCell ?_ (by first | omega | (simp; done) | (simp; omega)) _ | refine Below.alloc ?_ (by first | omega | (simp; done) | (simp; omega)) _))) hb
  have d1 : Below w.heap.size w w1 := b1
  have k1 : w.heap.size ≤ w1.heap.size := d1.size
  clear hb
  go_wp2_with fail
  refine (answer_is 17 18 true _ (by decide) (by decide) (HA.out.below (by (repeat' (first | with_reducible exact d1 | refine Below.setCell ?_ (by first | omega | (simp; done) | (simp; omega)) _ | refine Below.alloc ?_ (by first | omega | (simp; done) | (simp; omega)) _)))) rfl rfl).mono ?_
  rintro e w' ⟨rfl, rfl⟩
  go_wp2_with fail
  refine (answer_is 8 0 true _ (by decide) (by decide) (HA.out.below (by (repeat' (first | with_reducible exact d1 | refine Below.setCell ?_ (by first | omega | (simp; done) | (simp; omega)) _ | refine Below.alloc ?_ (by first | omega | (simp; done) | (simp; omega)) _)))) rfl rfl).mono ?_
  rintro e w' ⟨rfl, rfl⟩
  go_wp2_with fail
  refine (answer_is 18 0 false _ (by decide) (by decide) (HA.out.below (by (repeat' (first | with_reducible exact d1 | refine Below.setCell ?_ (by first | omega | (simp; done) | (simp; omega)) _ | refine Below.alloc ?_ (by first | omega | (simp; done) | (simp; omega)) _)))) rfl rfl).mono ?_
  rintro e w' ⟨rfl, rfl⟩
  go_wp2_with fail
  refine (open_is (pkt 3 17) 3 17 (3, 1, 17) true _ (fa_pkt 3 17 (by decide) (by decide)) (HA.out.below (by (repeat' (first | with_reducible exact d1 | refine Below.setCell ?_ (by first | omega | (simp; done) | (simp; omega)) _ | refine Below.alloc ?_ (by first | omega | (simp; done) | (simp; omega)) _)))) rfl rfl).mono ?_
  rintro e w2 ⟨rfl, hb⟩
  have b2 : Below w1.heap.size w1 w2 := bthen (by (repeat' (first | exact Below.refl _ _ | refine Below.setCell ?_ (by first | omega | (simp; done) | (simp; omega)) _ | refine Below.alloc ?_ (by first | omega | (simp; done) | (simp; omega)) _))) hb
  have d2 : Below w.heap.size w w2 := bthen d1 b2
  have k2 : w.heap.size ≤ w2.heap.size := d2.size
  clear hb b2 d1 k1
  go_wp2_with fail
  refine (open_is (pkt 4 17) 4 17 (0, 0, 0) false _ (fa_pkt 4 17 (by decide) (by decide)) (HA.out.below (by (repeat' (first | with_reducible exact d2 | refine Below.setCell ?_ (by first | omega | (simp; done) | (simp; omega)) _ | refine Below.alloc ?_ (by first | omega | (simp; done) | (simp; omega)) _)))) rfl rfl).mono ?_
  rintro e w3 ⟨rfl, hb⟩
  have b3 : Below w2.heap.size w2 w3 := bthen (by (repeat' (first | exact Below.refl _ _ | refine Below.setCell ?_ (by first | omega | (simp; done) | (simp; omega)) _ | refine Below.alloc ?_ (by first | omega | (simp; done) | (simp; omega)) _))) hb
  have d3 : Below w.heap.size w w3 := bthen d2 b3
  have k3 : w.heap.size ≤ w3.heap.size := d3.size
  have x0_3 : w3.cell? ⟨w2.heap.size, 0, none⟩ = some (.int .u8 3) := (hb.cell (p := ⟨w2.heap.size, 0, none⟩) (by first | (simp; done) | (simp; omega))).trans (by simp [go_sem])
  have x1_3 : w3.cell? ⟨w2.heap.size, 1, none⟩ = some (.int .u8 1) := (hb.cell (p := ⟨w2.heap.size, 1, none⟩) (by first | (simp; done) | (simp; omega))).trans (by simp [go_sem])
  have x2_3 : w3.cell? ⟨w2.heap.size, 2, none⟩ = some (.int .u8 17) := (hb.cell (p := ⟨w2.heap.size, 2, none⟩) (by first | (simp; done) | (simp; omega))).trans (by simp [go_sem])
  have zx_3 : w2.heap.size < w3.heap.size := by have := hb.size; simp at this; omega
  clear hb b3 d2 k2
  go_wp2_with fail
  refine (step_is (pkt 3 8) 3 1 17 0 3 8 (0, 0, 0) false _ (fa_pkt 3 8 (by decide) (by decide)) (HA.out.below (by (repeat' (first | with_reducible exact d3 | refine Below.setCell ?_ (by first | omega | (simp; done) | (simp; omega)) _ | refine Below.alloc ?_ (by first | omega | (simp; done) | (simp; omega)) _)))) (by decide) (by decide) (by decide) rfl rfl).mono ?_
  rintro e w4 ⟨rfl, hb⟩
  have b4 : Below w3.heap.size w3 w4 := bthen (by (repeat' (first | exact Below.refl _ _ | refine Below.setCell ?_ (by first | omega | (simp; done) | (simp; omega)) _ | refine Below.alloc ?_ (by first | omega | (simp; done) | (simp; omega)) _))) hb
  have d4 : Below w.heap.size w w4 := bthen d3 b4
  have k4 : w.heap.size ≤ w4.heap.size := d4.size
  have x0_4 : w4.cell? ⟨w2.heap.size, 0, none⟩ = some (.int .u8 3) := (b4.cell (p := ⟨w2.heap.size, 0, none⟩) (by show w2.heap.size < w3.heap.size; omega)).trans x0_3
  have x1_4 : w4.cell? ⟨w2.heap.size, 1, none⟩ = some (.int .u8 1) := (b4.cell (p := ⟨w2.heap.size, 1, none⟩) (by show w2.heap.size < w3.heap.size; omega)).trans x1_3
  have x2_4 : w4.cell? ⟨w2.heap.size, 2, none⟩ = some (.int .u8 17) := (b4.cell (p := ⟨w2.heap.size, 2, none⟩) (by show w2.heap.size < w3.heap.size; omega)).trans x2_3
  have zx_4 : w2.heap.size < w4.heap.size := Nat.lt_of_lt_of_le zx_3 b4.size
  clear hb b4 d3 k3 x0_3 x1_3 x2_3 zx_3
  go_wp2_with fail
  refine (step_is (pkt 4 0) 3 1 17 1 4 0 (0, 0, 0) false _ (fa_pkt 4 0 (by decide) (by decide)) (HA.out.below (by (repeat' (first | with_reducible exact d4 | refine Below.setCell ?_ (by first | omega | (simp; done) | (simp; omega)) _ | refine Below.alloc ?_ (by first | omega | (simp; done) | (simp; omega)) _)))) (by decide) (by decide) (by decide) rfl rfl).mono ?_
  rintro e w5 ⟨rfl, hb⟩
  have b5 : Below w4.heap.size w4 w5 := bthen (by (repeat' (first | exact Below.refl _ _ | refine Below.setCell ?_ (by first | omega | (simp; done) | (simp; omega)) _ | refine Below.alloc ?_ (by first | omega | (simp; done) | (simp; omega)) _))) hb
  have d5 : Below w.heap.size w w5 := bthen d4 b5
  have k5 : w.heap.size ≤ w5.heap.size := d5.size
  have x0_5 : w5.cell? ⟨w2.heap.size, 0, none⟩ = some (.int .u8 3) := (b5.cell (p := ⟨w2.heap.size, 0, none⟩) (by show w2.heap.size < w4.heap.size; omega)).trans x0_4
  have x1_5 : w5.cell? ⟨w2.heap.size, 1, none⟩ = some (.int .u8 1) := (b5.cell (p := ⟨w2.heap.size, 1, none⟩) (by show w2.heap.size < w4.heap.size; omega)).trans x1_4
  have x2_5 : w5.cell? ⟨w2.heap.size, 2, none⟩ = some (.int .u8 17) := (b5.cell (p := ⟨w2.heap.size, 2, none⟩) (by show w2.heap.size < w4.heap.size; omega)).trans x2_4
  have zx_5 : w2.heap.size < w5.heap.size := Nat.lt_of_lt_of_le zx_4 b5.size
  clear hb b5 d4 k4 x0_4 x1_4 x2_4 zx_4
  go_wp2_with fail
  go_ret
  exact ⟨by first | rfl | simp, (by (repeat' (first | with_reducible exact d5 | refine Below.setCell ?_ (by first | omega | (simp; done) | (simp; omega)) _ | refine Below.alloc ?_ (by first | omega | (simp; done) | (simp; omega)) _)))⟩

set_option maxRecDepth 100000 in
set_option maxHeartbeats 4000000 in
theorem types_17_13 (w : World) (HA : Hid (Ans w)) :
    Calls Tryd.prog 5 #[.int .u8 17, .int .u8 13] w fun e w' => e = .returned (.bool true) ∧ Below w.heap.size w w' := by
  go_enter Tryd.func5, Tryd.ntmps5
  go_wp2_with fail
  refine (awake_any _ HA.out).mono ?_
  rintro e w1 ⟨rfl, hb⟩
  have b1 : Below w.heap.size w w1 := bthen (by (repeat' (first | exact Below.refl _ _ | refine Below.setCell ?_ (by first | omega | (simp; done) | (simp; omega)) _ | refine Below.alloc ?_ (by first | omega | (simp; done) | (simp; omega)) _))) hb
  have d1 : Below w.heap.size w w1 := b1
  have k1 : w.heap.size ≤ w1.heap.size := d1.size
  clear hb
  go_wp2_with fail
  refine (answer_is 17 18 true _ (by decide) (by decide) (HA.out.below (by (repeat' (first | with_reducible exact d1 | refine Below.setCell ?_ (by first | omega | (simp; done) | (simp; omega)) _ | refine Below.alloc ?_ (by first | omega | (simp; done) | (simp; omega)) _)))) rfl rfl).mono ?_
  rintro e w' ⟨rfl, rfl⟩
  go_wp2_with fail
  refine (answer_is 13 14 true _ (by decide) (by decide) (HA.out.below (by (repeat' (first | with_reducible exact d1 | refine Below.setCell ?_ (by first | omega | (simp; done) | (simp; omega)) _ | refine Below.alloc ?_ (by first | omega | (simp; done) | (simp; omega)) _)))) rfl rfl).mono ?_
  rintro e w' ⟨rfl, rfl⟩
  go_wp2_with fail
  refine (answer_is 18 0 false _ (by decide) (by decide) (HA.out.below (by (repeat' (first | with_reducible exact d1 | refine Below.setCell ?_ (by first | omega | (simp; done) | (simp; omega)) _ | refine Below.alloc ?_ (by first | omega | (simp; done) | (simp; omega)) _)))) rfl rfl).mono ?_
  rintro e w' ⟨rfl, rfl⟩
  go_wp2_with fail
  refine (open_is (pkt 3 17) 3 17 (3, 1, 17) true _ (fa_pkt 3 17 (by decide) (by decide)) (HA.out.below (by (repeat' (first | with_reducible exact d1 | refine Below.setCell ?_ (by first | omega | (simp; done) | (simp; omega)) _ | refine Below.alloc ?_ (by first | omega | (simp; done) | (simp; omega)) _)))) rfl rfl).mono ?_
  rintro e w2 ⟨rfl, hb⟩
  have b2 : Below w1.heap.size w1 w2 := bthen (by (repeat' (first | exact Below.refl _ _ | refine Below.setCell ?_ (by first | omega | (simp; done) | (simp; omega)) _ | refine Below.alloc ?_ (by first | omega | (simp; done) | (simp; omega)) _))) hb
  have d2 : Below w.heap.size w w2 := bthen d1 b2
  have k2 : w.heap.size ≤ w2.heap.size := d2.size
  clear hb b2 d1 k1
  go_wp2_with fail
  refine (open_is (pkt 4 17) 4 17 (0, 0, 0) false _ (fa_pkt 4 17 (by decide) (by decide)) (HA.out.below (by (repeat' (first | with_reducible exact d2 | refine Below.setCell ?_ (by first | omega | (simp; done) | (simp; omega)) _ | refine Below.alloc ?_ (by first | omega | (simp; done) | (simp; omega)) _)))) rfl rfl).mono ?_
  rintro e w3 ⟨rfl, hb⟩
  have b3 : Below w2.heap.size w2 w3 := bthen (by (repeat' (first | exact Below.refl _ _ | refine Below.setCell ?_ (by first | omega | (simp; done) | (simp; omega)) _ | refine Below.alloc ?_ (by first | omega | (simp; done) | (simp; omega)) _))) hb
  have d3 : Below w.heap.size w w3 := bthen d2 b3
  have k3 : w.heap.size ≤ w3.heap.size := d3.size
  have x0_3 : w3.cell? ⟨w2.heap.size, 0, none⟩ = some (.int .u8 3) := (hb.cell (p := ⟨w2.heap.size, 0, none⟩) (by first | (simp; done) | (simp; omega))).trans (by simp [go_sem])
  have x1_3 : w3.cell? ⟨w2.heap.size, 1, none⟩ = some (.int .u8 1) := (hb.cell (p := ⟨w2.heap.size, 1, none⟩) (by first | (simp; done) | (simp; omega))).trans (by simp [go_sem])
  have x2_3 : w3.cell? ⟨w2.heap.size, 2, none⟩ = some (.int .u8 17) := (hb.cell (p := ⟨w2.heap.size, 2, none⟩) (by first | (simp; done) | (simp; omega))).trans (by simp [go_sem])
  have zx_3 : w2.heap.size < w3.heap.size := by have := hb.size; simp at this; omega
  clear hb b3 d2 k2
  go_wp2_with fail
  refine (step_is (pkt 3 13) 3 1 17 0 3 13 (0, 0, 0) false _ (fa_pkt 3 13 (by decide) (by decide)) (HA.out.below (by (repeat' (first | with_reducible exact d3 | refine Below.setCell ?_ (by first | omega | (simp; done) | (simp; omega)) _ | refine Below.alloc ?_ (by first | omega | (simp; done) | (simp; omega)) _)))) (by decide) (by decide) (by decide) rfl rfl).mono ?_
  rintro e w4 ⟨rfl, hb⟩
  have b4 : Below w3.heap.size w3 w4 := bthen (by (repeat' (first | exact Below.refl _ _ | refine Below.setCell ?_ (by first | omega | (simp; done) | (simp; omega)) _ | refine Below.alloc ?_ (by first | omega | (simp; done) | (simp; omega)) _))) hb
  have d4 : Below w.heap.size w w4 := bthen d3 b4
  have k4 : w.heap.size ≤ w4.heap.size := d4.size
  have x0_4 : w4.cell? ⟨w2.heap.size, 0, none⟩ = some (.int .u8 3) := (b4.cell (p := ⟨w2.heap.size, 0, none⟩) (by show w2.heap.size < w3.heap.size; omega)).trans x0_3
  have x1_4 : w4.cell? ⟨w2.heap.size, 1, none⟩ = some (.int .u8 1) := (b4.cell (p := ⟨w2.heap.size, 1, none⟩) (by show w2.heap.size < w3.heap.size; omega)).trans x1_3
  have x2_4 : w4.cell? ⟨w2.heap.size, 2, none⟩ = some (.int .u8 17) := (b4.cell (p := ⟨w2.heap.size, 2, none⟩) (by show w2.heap.size < w3.heap.size; omega)).trans x2_3
  have zx_4 : w2.heap.size < w4.heap.size := Nat.lt_of_lt_of_le zx_3 b4.size
  clear hb b4 d3 k3 x0_3 x1_3 x2_3 zx_3
  go_wp2_with fail
  refine (step_is (pkt 4 14) 3 1 17 1 4 14 (0, 0, 0) false _ (fa_pkt 4 14 (by decide) (by decide)) (HA.out.below (by (repeat' (first | with_reducible exact d4 | refine Below.setCell ?_ (by first | omega | (simp; done) | (simp; omega)) _ | refine Below.alloc ?_ (by first | omega | (simp; done) | (simp; omega)) _)))) (by decide) (by decide) (by decide) rfl rfl).mono ?_
  rintro e w5 ⟨rfl, hb⟩
  have b5 : Below w4.heap.size w4 w5 := bthen (by (repeat' (first | exact Below.refl _ _ | refine Below.setCell ?_ (by first | omega | (simp; done) | (simp; omega)) _ | refine Below.alloc ?_ (by first | omega | (simp; done) | (simp; omega)) _))) hb
  have d5 : Below w.heap.size w w5 := bthen d4 b5
  have k5 : w.heap.size ≤ w5.heap.size := d5.size
  have x0_5 : w5.cell? ⟨w2.heap.size, 0, none⟩ = some (.int .u8 3) := (b5.cell (p := ⟨w2.heap.size, 0, none⟩) (by show w2.heap.size < w4.heap.size; omega)).trans x0_4
  have x1_5 : w5.cell? ⟨w2.heap.size, 1, none⟩ = some (.int .u8 1) := (b5.cell (p := ⟨w2.heap.size, 1, none⟩) (by show w2.heap.size < w4.heap.size; omega)).trans x1_4
  have x2_5 : w5.cell? ⟨w2.heap.size, 2, none⟩ = some (.int .u8 17) := (b5.cell (p := ⟨w2.heap.size, 2, none⟩) (by show w2.heap.size < w4.heap.size; omega)).trans x2_4
  have zx_5 : w2.heap.size < w5.heap.size := Nat.lt_of_lt_of_le zx_4 b5.size
  clear hb b5 d4 k4 x0_4 x1_4 x2_4 zx_4
  go_wp2_with fail
  go_ret
  exact ⟨by first | rfl | simp, (by (repeat' (first | with_reducible exact d5 | refine Below.setCell ?_ (by first | omega | (simp; done) | (simp; omega)) _ | refine Below.alloc ?_ (by first | omega | (simp; done) | (simp; omega)) _)))⟩

set_option maxRecDepth 100000 in
set_option maxHeartbeats 4000000 in
theorem types_17_17 (w : World) (HA : Hid (Ans w)) :
    Calls Tryd.prog 5 #[.int .u8 17, .int .u8 17] w fun e w' => e = .returned (.bool true) ∧ Below w.heap.size w w' := by
  go_enter Tryd.func5, Tryd.ntmps5
  go_wp2_with fail
  refine (awake_any _ HA.out).mono ?_
  rintro e w1 ⟨rfl, hb⟩
  have b1 : Below w.heap.size w w1 := bthen (by (repeat' (first | exact Below.refl _ _ | refine Below.setCell ?_ (by first | omega | (simp; done) | (simp; omega)) _ | refine Below.alloc ?_ (by first | omega | (simp; done) | (simp; omega)) _))) hb
  have d1 : Below w.heap.size w w1 := b1
  have k1 : w.heap.size ≤ w1.heap.size := d1.size
  clear hb
  go_wp2_with fail
  refine (answer_is 17 18 true _ (by decide) (by decide) (HA.out.below (by (repeat' (first | with_reducible exact d1 | refine Below.setCell ?_ (by first | omega | (simp; done) | (simp; omega)) _ | refine Below.alloc ?_ (by first | omega | (simp; done) | (simp; omega)) _)))) rfl rfl).mono ?_
  rintro e w' ⟨rfl, rfl⟩
  go_wp2_with fail
  refine (answer_is 17 18 true _ (by decide) (by decide) (HA.out.below (by (repeat' (first | with_reducible exact d1 | refine Below.setCell ?_ (by first | omega | (simp; done) | (simp; omega)) _ | refine Below.alloc ?_ (by first | omega | (simp; done) | (simp; omega)) _)))) rfl rfl).mono ?_
  rintro e w' ⟨rfl, rfl⟩
  go_wp2_with fail
  refine (answer_is 18 0 false _ (by decide) (by decide) (HA.out.below (by (repeat' (first | with_reducible exact d1 | refine Below.setCell ?_ (by first | omega | (simp; done) | (simp; omega)) _ | refine Below.alloc ?_ (by first | omega | (simp; done) | (simp; omega)) _)))) rfl rfl).mono ?_
  rintro e w' ⟨rfl, rfl⟩
  go_wp2_with fail
  refine (open_is (pkt 3 17) 3 17 (3, 1, 17) true _ (fa_pkt 3 17 (by decide) (by decide)) (HA.out.below (by (repeat' (first | with_reducible exact d1 | refine Below.setCell ?_ (by first | omega | (simp; done) | (simp; omega)) _ | refine Below.alloc ?_ (by first | omega | (simp; done) | (simp; omega)) _)))) rfl rfl).mono ?_
  rintro e w2 ⟨rfl, hb⟩
  have b2 : Below w1.heap.size w1 w2 := bthen (by (repeat' (first | exact Below.refl _ _ | refine Below.setCell ?_ (by first | omega | (simp; done) | (simp; omega)) _ | refine Below.alloc ?_ (by first | omega | (simp; done) | (simp; omega)) _))) hb
  have d2 : Below w.heap.size w w2 := bthen d1 b2
  have k2 : w.heap.size ≤ w2.heap.size := d2.size
  clear hb b2 d1 k1
  go_wp2_with fail
  refine (open_is (pkt 4 17) 4 17 (0, 0, 0) false _ (fa_pkt 4 17 (by decide) (by decide)) (HA.out.below (by (repeat' (first | with_reducible exact d2 | refine Below.setCell ?_ (by first | omega | (simp; done) | (simp; omega)) _ | refine Below.alloc ?_ (by first | omega | (simp; done) | (simp; omega)) _)))) rfl rfl).mono ?_
  rintro e w3 ⟨rfl, hb⟩
  have b3 : Below w2.heap.size w2 w3 := bthen (by (repeat' (first | exact Below.refl _ _ | refine Below.setCell ?_ (by first | omega | (simp; done) | (simp; omega)) _ | refine Below.alloc ?_ (by first | omega | (simp; done) | (simp; omega)) _))) hb
  have d3 : Below w.heap.size w w3 := bthen d2 b3
  have k3 : w.heap.size ≤ w3.heap.size := d3.size
  have x0_3 : w3.cell? ⟨w2.heap.size, 0, none⟩ = some (.int .u8 3) := (hb.cell (p := ⟨w2.heap.size, 0, none⟩) (by first | (simp; done) | (simp; omega))).trans (by simp [go_sem])
  have x1_3 : w3.cell? ⟨w2.heap.size, 1, none⟩ = some (.int .u8 1) := (hb.cell (p := ⟨w2.heap.size, 1, none⟩) (by first | (simp; done) | (simp; omega))).trans (by simp [go_sem])
  have x2_3 : w3.cell? ⟨w2.heap.size, 2, none⟩ = some (.int .u8 17) := (hb.cell (p := ⟨w2.heap.size, 2, none⟩) (by first | (simp; done) | (simp; omega))).trans (by simp [go_sem])
  have zx_3 : w2.heap.size < w3.heap.size := by have := hb.size; simp at this; omega
  clear hb b3 d2 k2
  go_wp2_with fail
  refine (step_is (pkt 3 17) 3 1 17 0 3 17 (3, 1, 17) true _ (fa_pkt 3 17 (by decide) (by decide)) (HA.out.below (by (repeat' (first | with_reducible exact d3 | refine Below.setCell ?_ (by first | omega | (simp; done) | (simp; omega)) _ | refine Below.alloc ?_ (by first | omega | (simp; done) | (simp; omega)) _)))) (by decide) (by decide) (by decide) rfl rfl).mono ?_
  rintro e w4 ⟨rfl, hb⟩
  have b4 : Below w3.heap.size w3 w4 := bthen (by (repeat' (first | exact Below.refl _ _ | refine Below.setCell ?_ (by first | omega | (simp; done) | (simp; omega)) _ | refine Below.alloc ?_ (by first | omega | (simp; done) | (simp; omega)) _))) hb
  have d4 : Below w.heap.size w w4 := bthen d3 b4
  have k4 : w.heap.size ≤ w4.heap.size := d4.size
  have x0_4 : w4.cell? ⟨w2.heap.size, 0, none⟩ = some (.int .u8 3) := (b4.cell (p := ⟨w2.heap.size, 0, none⟩) (by show w2.heap.size < w3.heap.size; omega)).trans x0_3
  have x1_4 : w4.cell? ⟨w2.heap.size, 1, none⟩ = some (.int .u8 1) := (b4.cell (p := ⟨w2.heap.size, 1, none⟩) (by show w2.heap.size < w3.heap.size; omega)).trans x1_3
  have x2_4 : w4.cell? ⟨w2.heap.size, 2, none⟩ = some (.int .u8 17) := (b4.cell (p := ⟨w2.heap.size, 2, none⟩) (by show w2.heap.size < w3.heap.size; omega)).trans x2_3
  have zx_4 : w2.heap.size < w4.heap.size := Nat.lt_of_lt_of_le zx_3 b4.size
  clear hb b4 d3 k3 x0_3 x1_3 x2_3 zx_3
  go_wp2_with fail
  refine (step_is (pkt 4 18) 3 1 17 1 4 18 (3, 2, 17) true _ (fa_pkt 4 18 (by decide) (by decide)) (HA.out.below (by (repeat' (first | with_reducible exact d4 | refine Below.setCell ?_ (by first | omega | (simp; done) | (simp; omega)) _ | refine Below.alloc ?_ (by first | omega | (simp; done) | (simp; omega)) _)))) (by decide) (by decide) (by decide) rfl rfl).mono ?_
  rintro e w5 ⟨rfl, hb⟩
  have b5 : Below w4.heap.size w4 w5 := bthen (by (repeat' (first | exact Below.refl _ _ | refine Below.setCell ?_ (by first | omega | (simp; done) | (simp; omega)) _ | refine Below.alloc ?_ (by first | omega | (simp; done) | (simp; omega)) _))) hb
  have d5 : Below w.heap.size w w5 := bthen d4 b5
  have k5 : w.heap.size ≤ w5.heap.size := d5.size
  have x0_5 : w5.cell? ⟨w2.heap.size, 0, none⟩ = some (.int .u8 3) := (b5.cell (p := ⟨w2.heap.size, 0, none⟩) (by show w2.heap.size < w4.heap.size; omega)).trans x0_4
  have x1_5 : w5.cell? ⟨w2.heap.size, 1, none⟩ = some (.int .u8 1) := (b5.cell (p := ⟨w2.heap.size, 1, none⟩) (by show w2.heap.size < w4.heap.size; omega)).trans x1_4
  have x2_5 : w5.cell? ⟨w2.heap.size, 2, none⟩ = some (.int .u8 17) := (b5.cell (p := ⟨w2.heap.size, 2, none⟩) (by show w2.heap.size < w4.heap.size; omega)).trans x2_4
  have zx_5 : w2.heap.size < w5.heap.size := Nat.lt_of_lt_of_le zx_4 b5.size
  clear hb b5 d4 k4 x0_4 x1_4 x2_4 zx_4
  go_wp2_with fail
  go_ret
  exact ⟨by first | rfl | simp, (by (repeat' (first | with_reducible exact d5 | refine Below.setCell ?_ (by first | omega | (simp; done) | (simp; omega)) _ | refine Below.alloc ?_ (by first | omega | (simp; done) | (simp; omega)) _)))⟩

set_option maxRecDepth 100000 in
set_option maxHeartbeats 4000000 in
theorem types_17_x (t : Int) (w : World) (HA : Hid (Ans w)) (ht : Hid (0 ≤ t ∧ t ≤ 255)) (htq : Hid (isq t = false)) (hta : Hid (ans t = 0)) (hne : ((17 : Int) == t) = false) (hal : Hid (alw 3 1 17 0 3 t = false)) :
    Calls Tryd.prog 5 #[.int .u8 17, .int .u8 t] w fun e w' => e = .returned (.bool true) ∧ Below w.heap.size w w' := by
  go_enter Tryd.func5, Tryd.ntmps5
  go_wp2_with fail
  refine (awake_any _ HA.out).mono ?_
  rintro e w1 ⟨rfl, hb⟩
  have b1 : Below w.heap.size w w1 := bthen (by (repeat' (first | exact Below.refl _ _ | refine Below.setCell ?_ (by first | omega | (simp; done) | (simp; omega)) _ | refine Below.alloc ?_ (by first | omega | (simp; done) | (simp; omega)) _))) hb
  have d1 : Below w.heap.size w w1 := b1
  have k1 : w.heap.size ≤ w1.heap.size := d1.size
  clear hb
  go_wp2_with fail
  refine (answer_is 17 18 true _ (by decide) (by decide) (HA.out.below (by (repeat' (first | with_reducible exact d1 | refine Below.setCell ?_ (by first | omega | (simp; done) | (simp; omega)) _ | refine Below.alloc ?_ (by first | omega | (simp; done) | (simp; omega)) _)))) rfl rfl).mono ?_
  rintro e w' ⟨rfl, rfl⟩
  go_wp2_with fail
  refine (answer_is t 0 false _ ht.out.1 ht.out.2 (HA.out.below (by (repeat' (first | with_reducible exact d1 | refine Below.setCell ?_ (by first | omega | (simp; done) | (simp; omega)) _ | refine Below.alloc ?_ (by first | omega | (simp; done) | (simp; omega)) _)))) hta.out htq.out).mono ?_
  rintro e w' ⟨rfl, rfl⟩
  go_wp2_with fail
  refine (answer_is 18 0 false _ (by decide) (by decide) (HA.out.below (by (repeat' (first | with_reducible exact d1 | refine Below.setCell ?_ (by first | omega | (simp; done) | (simp; omega)) _ | refine Below.alloc ?_ (by first | omega | (simp; done) | (simp; omega)) _)))) rfl rfl).mono ?_
  rintro e w' ⟨rfl, rfl⟩
  go_wp2_with fail
  refine (open_is (pkt 3 17) 3 17 (3, 1, 17) true _ (fa_pkt 3 17 (by decide) (by decide)) (HA.out.below (by (repeat' (first | with_reducible exact d1 | refine Below.setCell ?_ (by first | omega | (simp; done) | (simp; omega)) _ | refine Below.alloc ?_ (by first | omega | (simp; done) | (simp; omega)) _)))) rfl rfl).mono ?_
  rintro e w2 ⟨rfl, hb⟩
  have b2 : Below w1.heap.size w1 w2 := bthen (by (repeat' (first | exact Below.refl _ _ | refine Below.setCell ?_ (by first | omega | (simp; done) | (simp; omega)) _ | refine Below.alloc ?_ (by first | omega | (simp; done) | (simp; omega)) _))) hb
  have d2 : Below w.heap.size w w2 := bthen d1 b2
  have k2 : w.heap.size ≤ w2.heap.size := d2.size
  clear hb b2 d1 k1
  go_wp2_with fail
  refine (open_is (pkt 4 17) 4 17 (0, 0, 0) false _ (fa_pkt 4 17 (by decide) (by decide)) (HA.out.below (by (repeat' (first | with_reducible exact d2 | refine Below.setCell ?_ (by first | omega | (simp; done) | (simp; omega)) _ | refine Below.alloc ?_ (by first | omega | (simp; done) | (simp; omega)) _)))) rfl rfl).mono ?_
  rintro e w3 ⟨rfl, hb⟩
  have b3 : Below w2.heap.size w2 w3 := bthen (by (repeat' (first | exact Below.refl _ _ | refine Below.setCell ?_ (by first | omega | (simp; done) | (simp; omega)) _ | refine Below.alloc ?_ (by first | omega | (simp; done) | (simp; omega)) _))) hb
  have d3 : Below w.heap.size w w3 := bthen d2 b3
  have k3 : w.heap.size ≤ w3.heap.size := d3.size
  have x0_3 : w3.cell? ⟨w2.heap.size, 0, none⟩ = some (.int .u8 3) := (hb.cell (p := ⟨w2.heap.size, 0, none⟩) (by first | (simp; done) | (simp; omega))).trans (by simp [go_sem])
  have x1_3 : w3.cell? ⟨w2.heap.size, 1, none⟩ = some (.int .u8 1) := (hb.cell (p := ⟨w2.heap.size, 1, none⟩) (by first | (simp; done) | (simp; omega))).trans (by simp [go_sem])
  have x2_3 : w3.cell? ⟨w2.heap.size, 2, none⟩ = some (.int .u8 17) := (hb.cell (p := ⟨w2.heap.size, 2, none⟩) (by first | (simp; done) | (simp; omega))).trans (by simp [go_sem])
  have zx_3 : w2.heap.size < w3.heap.size := by have := hb.size; simp at this; omega
  clear hb b3 d2 k2
  go_wp2_with fail
  refine (step_is (pkt 3 t) 3 1 17 0 3 t (0, 0, 0) false _ (fa_pkt 3 t (by decide) ht.out) (HA.out.below (by (repeat' (first | with_reducible exact d3 | refine Below.setCell ?_ (by first | omega | (simp; done) | (simp; omega)) _ | refine Below.alloc ?_ (by first | omega | (simp; done) | (simp; omega)) _)))) (by decide) (by decide) (by decide) (by rw [stF, hal.out]; rfl) hal.out).mono ?_
  rintro e w4 ⟨rfl, hb⟩
  have b4 : Below w3.heap.size w3 w4 := bthen (by (repeat' (first | exact Below.refl _ _ | refine Below.setCell ?_ (by first | omega | (simp; done) | (simp; omega)) _ | refine Below.alloc ?_ (by first | omega | (simp; done) | (simp; omega)) _))) hb
  have d4 : Below w.heap.size w w4 := bthen d3 b4
  have k4 : w.heap.size ≤ w4.heap.size := d4.size
  have x0_4 : w4.cell? ⟨w2.heap.size, 0, none⟩ = some (.int .u8 3) := (b4.cell (p := ⟨w2.heap.size, 0, none⟩) (by show w2.heap.size < w3.heap.size; omega)).trans x0_3
  have x1_4 : w4.cell? ⟨w2.heap.size, 1, none⟩ = some (.int .u8 1) := (b4.cell (p := ⟨w2.heap.size, 1, none⟩) (by show w2.heap.size < w3.heap.size; omega)).trans x1_3
  have x2_4 : w4.cell? ⟨w2.heap.size, 2, none⟩ = some (.int .u8 17) := (b4.cell (p := ⟨w2.heap.size, 2, none⟩) (by show w2.heap.size < w3.heap.size; omega)).trans x2_3
  have zx_4 : w2.heap.size < w4.heap.size := Nat.lt_of_lt_of_le zx_3 b4.size
  clear hb b4 d3 k3 x0_3 x1_3 x2_3 zx_3
  go_wp2_with fail
  refine (step_is (pkt 4 0) 3 1 17 1 4 0 (0, 0, 0) false _ (fa_pkt 4 0 (by decide) (by decide)) (HA.out.below (by (repeat' (first | with_reducible exact d4 | refine Below.setCell ?_ (by first | omega | (simp; done) | (simp; omega)) _ | refine Below.alloc ?_ (by first | omega | (simp; done) | (simp; omega)) _)))) (by decide) (by decide) (by decide) rfl rfl).mono ?_
  rintro e w5 ⟨rfl, hb⟩
  have b5 : Below w4.heap.size w4 w5 := bthen (by (repeat' (first | exact Below.refl _ _ | refine Below.setCell ?_ (by first | omega | (simp; done) | (simp; omega)) _ | refine Below.alloc ?_ (by first | omega | (simp; done) | (simp; omega)) _))) hb
  have d5 : Below w.heap.size w w5 := bthen d4 b5
  have k5 : w.heap.size ≤ w5.heap.size := d5.size
  have x0_5 : w5.cell? ⟨w2.heap.size, 0, none⟩ = some (.int .u8 3) := (b5.cell (p := ⟨w2.heap.size, 0, none⟩) (by show w2.heap.size < w4.heap.size; omega)).trans x0_4
  have x1_5 : w5.cell? ⟨w2.heap.size, 1, none⟩ = some (.int .u8 1) := (b5.cell (p := ⟨w2.heap.size, 1, none⟩) (by show w2.heap.size < w4.heap.size; omega)).trans x1_4
  have x2_5 : w5.cell? ⟨w2.heap.size, 2, none⟩ = some (.int .u8 17) := (b5.cell (p := ⟨w2.heap.size, 2, none⟩) (by show w2.heap.size < w4.heap.size; omega)).trans x2_4
  have zx_5 : w2.heap.size < w5.heap.size := Nat.lt_of_lt_of_le zx_4 b5.size
  clear hb b5 d4 k4 x0_4 x1_4 x2_4 zx_4
  go_wp2_with fail
  go_ret
  exact ⟨by first | rfl | simp, (by (repeat' (first | with_reducible exact d5 | refine Below.setCell ?_ (by first | omega | (simp; done) | (simp; omega)) _ | refine Below.alloc ?_ (by first | omega | (simp; done) | (simp; omega)) _)))⟩

set_option maxRecDepth 100000 in
set_option maxHeartbeats 4000000 in
theorem types_x (s t b : Int) (is : Bool) (w : World) (HA : Hid (Ans w)) (hs : Hid (0 ≤ s ∧ s ≤ 255)) (hsq : Hid (isq s = false)) (hsa : Hid (ans s = 0)) (ht : Hid (0 ≤ t ∧ t ≤ 255)) (hal : Hid (∀ k d kd ty : Int, alw 0 0 0 d kd ty = false)) (hop : Hid (opens 3 s = false)) (hop4 : Hid (opens 4 s = false)) (htb : Hid (ans t = b)) (hti : Hid (isq t = is)) (hb255 : Hid (0 ≤ b ∧ b ≤ 255)) :
    Calls Tryd.prog 5 #[.int .u8 s, .int .u8 t] w fun e w' => e = .returned (.bool true) ∧ Below w.heap.size w w' := by
  go_enter Tryd.func5, Tryd.ntmps5
  go_wp2_with fail
  refine (awake_any _ HA.out).mono ?_
  rintro e w1 ⟨rfl, hb⟩
  have b1 : Below w.heap.size w w1 := bthen (by (repeat' (first | exact Below.refl _ _ | refine Below.setCell ?_ (by first | omega | (simp; done) | (simp; omega)) _ | refine Below.alloc ?_ (by first | omega | (simp; done) | (simp; omega)) _))) hb
  have d1 : Below w.heap.size w w1 := b1
  have k1 : w.heap.size ≤ w1.heap.size := d1.size
  clear hb
  go_wp2_with fail
  refine (answer_is s 0 false _ hs.out.1 hs.out.2 (HA.out.below (by (repeat' (first | with_reducible exact d1 | refine Below.setCell ?_ (by first | omega | (simp; done) | (simp; omega)) _ | refine Below.alloc ?_ (by first | omega | (simp; done) | (simp; omega)) _)))) hsa.out hsq.out).mono ?_
  rintro e w' ⟨rfl, rfl⟩
  go_wp2_with fail
  refine (answer_is t b is _ ht.out.1 ht.out.2 (HA.out.below (by (repeat' (first | with_reducible exact d1 | refine Below.setCell ?_ (by first | omega | (simp; done) | (simp; omega)) _ | refine Below.alloc ?_ (by first | omega | (simp; done) | (simp; omega)) _)))) htb.out hti.out).mono ?_
  rintro e w' ⟨rfl, rfl⟩
  go_wp2_with fail
  refine (open_is (pkt 3 s) 3 s (0, 0, 0) false _ (fa_pkt 3 s (by decide) hs.out) (HA.out.below (by (repeat' (first | with_reducible exact d1 | refine Below.setCell ?_ (by first | omega | (simp; done) | (simp; omega)) _ | refine Below.alloc ?_ (by first | omega | (simp; done) | (simp; omega)) _)))) (by rw [opn, hop.out]; rfl) hop.out).mono ?_
  rintro e w2 ⟨rfl, hb⟩
  have b2 : Below w1.heap.size w1 w2 := bthen (by (repeat' (first | exact Below.refl _ _ | refine Below.setCell ?_ (by first | omega | (simp; done) | (simp; omega)) _ | refine Below.alloc ?_ (by first | omega | (simp; done) | (simp; omega)) _))) hb
  have d2 : Below w.heap.size w w2 := bthen d1 b2
  have k2 : w.heap.size ≤ w2.heap.size := d2.size
  clear hb b2 d1 k1
  go_wp2_with fail
  refine (open_is (pkt 4 s) 4 s (0, 0, 0) false _ (fa_pkt 4 s (by decide) hs.out) (HA.out.below (by (repeat' (first | with_reducible exact d2 | refine Below.setCell ?_ (by first | omega | (simp; done) | (simp; omega)) _ | refine Below.alloc ?_ (by first | omega | (simp; done) | (simp; omega)) _)))) (by rw [opn, hop4.out]; rfl) hop4.out).mono ?_
  rintro e w3 ⟨rfl, hb⟩
  have b3 : Below w2.heap.size w2 w3 := bthen (by (repeat' (first | exact Below.refl _ _ | refine Below.setCell ?_ (by first | omega | (simp; done) | (simp; omega)) _ | refine Below.alloc ?_ (by first | omega | (simp; done) | (simp; omega)) _))) hb
  have d3 : Below w.heap.size w w3 := bthen d2 b3
  have k3 : w.heap.size ≤ w3.heap.size := d3.size
  have x0_3 : w3.cell? ⟨w2.heap.size, 0, none⟩ = some (.int .u8 0) := (hb.cell (p := ⟨w2.heap.size, 0, none⟩) (by first | (simp; done) | (simp; omega))).trans (by simp [go_sem])
  have x1_3 : w3.cell? ⟨w2.heap.size, 1, none⟩ = some (.int .u8 0) := (hb.cell (p := ⟨w2.heap.size, 1, none⟩) (by first | (simp; done) | (simp; omega))).trans (by simp [go_sem])
  have x2_3 : w3.cell? ⟨w2.heap.size, 2, none⟩ = some (.int .u8 0) := (hb.cell (p := ⟨w2.heap.size, 2, none⟩) (by first | (simp; done) | (simp; omega))).trans (by simp [go_sem])
  have zx_3 : w2.heap.size < w3.heap.size := by have := hb.size; simp at this; omega
  clear hb b3 d2 k2
  go_wp2_with fail
  refine (step_is (pkt 3 t) 0 0 0 0 3 t (0, 0, 0) false _ (fa_pkt 3 t (by decide) ht.out) (HA.out.below (by (repeat' (first | with_reducible exact d3 | refine Below.setCell ?_ (by first | omega | (simp; done) | (simp; omega)) _ | refine Below.alloc ?_ (by first | omega | (simp; done) | (simp; omega)) _)))) (by decide) (by decide) (by decide) (by rw [stF, hal.out 0]; rfl) (hal.out 0 _ _ _)).mono ?_
  rintro e w4 ⟨rfl, hb⟩
  have b4 : Below w3.heap.size w3 w4 := bthen (by (repeat' (first | exact Below.refl _ _ | refine Below.setCell ?_ (by first | omega | (simp; done) | (simp; omega)) _ | refine Below.alloc ?_ (by first | omega | (simp; done) | (simp; omega)) _))) hb
  have d4 : Below w.heap.size w w4 := bthen d3 b4
  have k4 : w.heap.size ≤ w4.heap.size := d4.size
  have x0_4 : w4.cell? ⟨w2.heap.size, 0, none⟩ = some (.int .u8 0) := (b4.cell (p := ⟨w2.heap.size, 0, none⟩) (by show w2.heap.size < w3.heap.size; omega)).trans x0_3
  have x1_4 : w4.cell? ⟨w2.heap.size, 1, none⟩ = some (.int .u8 0) := (b4.cell (p := ⟨w2.heap.size, 1, none⟩) (by show w2.heap.size < w3.heap.size; omega)).trans x1_3
  have x2_4 : w4.cell? ⟨w2.heap.size, 2, none⟩ = some (.int .u8 0) := (b4.cell (p := ⟨w2.heap.size, 2, none⟩) (by show w2.heap.size < w3.heap.size; omega)).trans x2_3
  have zx_4 : w2.heap.size < w4.heap.size := Nat.lt_of_lt_of_le zx_3 b4.size
  clear hb b4 d3 k3 x0_3 x1_3 x2_3 zx_3
  go_wp2_with fail
  refine (step_is (pkt 4 b) 0 0 0 1 4 b (0, 0, 0) false _ (fa_pkt 4 b (by decide) hb255.out) (HA.out.below (by (repeat' (first | with_reducible exact d4 | refine Below.setCell ?_ (by first | omega | (simp; done) | (simp; omega)) _ | refine Below.alloc ?_ (by first | omega | (simp; done) | (simp; omega)) _)))) (by decide) (by decide) (by decide) (by rw [stF, hal.out 0]; rfl) (hal.out 0 _ _ _)).mono ?_
  rintro e w5 ⟨rfl, hb⟩
  have b5 : Below w4.heap.size w4 w5 := bthen (by (repeat' (first | exact Below.refl _ _ | refine Below.setCell ?_ (by first | omega | (simp; done) | (simp; omega)) _ | refine Below.alloc ?_ (by first | omega | (simp; done) | (simp; omega)) _))) hb
  have d5 : Below w.heap.size w w5 := bthen d4 b5
  have k5 : w.heap.size ≤ w5.heap.size := d5.size
  have x0_5 : w5.cell? ⟨w2.heap.size, 0, none⟩ = some (.int .u8 0) := (b5.cell (p := ⟨w2.heap.size, 0, none⟩) (by show w2.heap.size < w4.heap.size; omega)).trans x0_4
  have x1_5 : w5.cell? ⟨w2.heap.size, 1, none⟩ = some (.int .u8 0) := (b5.cell (p := ⟨w2.heap.size, 1, none⟩) (by show w2.heap.size < w4.heap.size; omega)).trans x1_4
  have x2_5 : w5.cell? ⟨w2.heap.size, 2, none⟩ = some (.int .u8 0) := (b5.cell (p := ⟨w2.heap.size, 2, none⟩) (by show w2.heap.size < w4.heap.size; omega)).trans x2_4
  have zx_5 : w2.heap.size < w5.heap.size := Nat.lt_of_lt_of_le zx_4 b5.size
  clear hb b5 d4 k4 x0_4 x1_4 x2_4 zx_4
  go_wp2_with fail
  go_ret
  exact ⟨by first | rfl | simp, (by (repeat' (first | with_reducible exact d5 | refine Below.setCell ?_ (by first | omega | (simp; done) | (simp; omega)) _ | refine Below.alloc ?_ (by first | omega | (simp; done) | (simp; omega)) _)))⟩

theorem isq_no {t : Int} (h : isq t = false) : ans t = 0 ∧ t ≠ 8 ∧ t ≠ 13 ∧ t ≠ 17 := by
  simp [isq] at h
  exact ⟨by simp [ans, h], h.1.1, h.1.2, h.2⟩
theorem isq_yes {t : Int} (h : isq t = true) : t = 8 ∨ t = 13 ∨ t = 17 := by
  simp [isq] at h
  omega
theorem ans_range (t : Int) : 0 ≤ ans t ∧ ans t ≤ 255 := by
  unfold ans
  split
  · decide
  · split <;> decide

theorem streamTypes_walk (s t : Int) (w : World) (hA : Ans w) (hs : 0 ≤ s ∧ s ≤ 255) (ht : 0 ≤ t ∧ t ≤ 255) :
    Calls Tryd.prog 5 #[.int .u8 s, .int .u8 t] w fun e w' => e = .returned (.bool true) ∧ Below w.heap.size w w' := by
  cases hsq : isq s
  · exact types_x s t _ _ w hA hs hsq (isq_no hsq).1 ht (fun k d kd ty => by simp [alw, rt, opens]) (show opens _ _ = _ by simp [opens, hsq]) (show opens _ _ = _ by simp [opens]) rfl rfl (ans_range t)
  · cases htq : isq t
    · obtain ⟨h1, h2, h3, h4⟩ := isq_no htq
      rcases isq_yes hsq with rfl | rfl | rfl
      · exact types_8_x t w hA ht htq h1 (by simpa using h2.symm) (show alw _ _ _ _ _ _ = _ by simp [alw, allowsQ, h2])
      · exact types_13_x t w hA ht htq h1 (by simpa using h3.symm) (show alw _ _ _ _ _ _ = _ by simp [alw, allowsQ, h3])
      · exact types_17_x t w hA ht htq h1 (by simpa using h4.symm) (show alw _ _ _ _ _ _ = _ by simp [alw, allowsQ, h4])
    · rcases isq_yes hsq with rfl | rfl | rfl <;> rcases isq_yes htq with rfl | rfl | rfl
      · exact types_8_8 w hA
      · exact types_8_13 w hA
      · exact types_8_17 w hA
      · exact types_13_8 w hA
      · exact types_13_13 w hA
      · exact types_13_17 w hA
      · exact types_17_8 w hA
      · exact types_17_13 w hA
      · exact types_17_17 w hA

end Go.Proofs.YtjmcpgagbjmfgaaDoor
