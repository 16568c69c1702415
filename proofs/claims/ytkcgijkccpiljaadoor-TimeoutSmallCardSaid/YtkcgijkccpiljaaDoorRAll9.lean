/-
  The contract of the reference's All.
-/
import Derived.Test.YtkcgijkccpiljaaDoorAll9
namespace Go.Proofs.YtkcgijkccpiljaaDoor
open Go.RowKit
set_option linter.unusedVariables false
set_option linter.unusedSimpArgs false

theorem ofE_yes (b : Nat → Int) (s e l : Int) (h1 : rgt b = true) (h3 : lvs s e l = true) (i : Nat) (hi : i < 9) : ofE b (i : Int) s e l = (scl (b i) s e l, 0) := by
  have : (i : Int) < 9 := by omega
  simp [ofE, h1, h3, this]
theorem ofE_no (b : Nat → Int) (c s e l : Int) (h : (rgt b && lvs s e l) = false) : ofE b c s e l = (0, 2) := by
  have : (rgt b && decide (c < 9) && lvs s e l) = false := by
    cases h1 : rgt b
    · rfl
    · rw [h1] at h
      simp at h
      simp [h]
  simp [ofE, this]

set_option maxHeartbeats 1000000 in
theorem rall_no (b : Nat → Int) (s e l : Int) (w : World) (h : (rgt b && lvs s e l) = false) : Calls Tryd.prog 41 #[.agg #[.int .i64 (b 0), .int .i64 (b 1), .int .i64 (b 2), .int .i64 (b 3), .int .i64 (b 4), .int .i64 (b 5), .int .i64 (b 6), .int .i64 (b 7), .int .i64 (b 8)], .agg #[.int .i64 s, .int .i64 e], .int .i64 l] w fun r w' => r = .returned (.tuple #[.agg #[.int .i64 0, .int .i64 0, .int .i64 0, .int .i64 0, .int .i64 0, .int .i64 0, .int .i64 0, .int .i64 0, .int .i64 0], .int .i64 2]) ∧ Below w.heap.size w w' := by
  have HO := Lib.hid (fun W => rof_any b 0 s e l W (by omega))
  rw [ofE_no b 0 s e l h] at HO
  clear h
  go_enter Tryd.func41, Tryd.ntmps41
  go_wp2_with fail
  refine wp_loop_rounds 1 ?_
  rw [rounds_succ]
  go_wp2_with fail
  refine (HO.out _).mono ?_
  rintro r w2 ⟨rfl, hb⟩
  have A3 : Nine w2 (w.heap.size + 1 + 1) (fun _ => 0) := by
    refine Nine.below ?_ hb
    refine Nine.below ?_ ((Below.refl _ _).alloc (Nat.le_refl _) _)
    exact Nine.new _ (fun _ => 0) 41 (by simp)
  have A4 : Free9 w2 (w.heap.size + 1 + 1) := by
    refine Free9.below ?_ (by simp <;> omega) hb
    refine Free9.below ?_ (by simp <;> omega) ((Below.refl _ _).alloc (Nat.le_refl _) _)
    exact Free9.new _ _ 41 (by simp)
  have z0 : w2.cell? ⟨w.heap.size + 1 + 1, 0, none⟩ = some (.int .i64 0) := A3 0 (by decide)
  have y0 := A4 0 (by decide)
  have z1 : w2.cell? ⟨w.heap.size + 1 + 1, 1, none⟩ = some (.int .i64 0) := A3 1 (by decide)
  have y1 := A4 1 (by decide)
  have z2 : w2.cell? ⟨w.heap.size + 1 + 1, 2, none⟩ = some (.int .i64 0) := A3 2 (by decide)
  have y2 := A4 2 (by decide)
  have z3 : w2.cell? ⟨w.heap.size + 1 + 1, 3, none⟩ = some (.int .i64 0) := A3 3 (by decide)
  have y3 := A4 3 (by decide)
  have z4 : w2.cell? ⟨w.heap.size + 1 + 1, 4, none⟩ = some (.int .i64 0) := A3 4 (by decide)
  have y4 := A4 4 (by decide)
  have z5 : w2.cell? ⟨w.heap.size + 1 + 1, 5, none⟩ = some (.int .i64 0) := A3 5 (by decide)
  have y5 := A4 5 (by decide)
  have z6 : w2.cell? ⟨w.heap.size + 1 + 1, 6, none⟩ = some (.int .i64 0) := A3 6 (by decide)
  have y6 := A4 6 (by decide)
  have z7 : w2.cell? ⟨w.heap.size + 1 + 1, 7, none⟩ = some (.int .i64 0) := A3 7 (by decide)
  have y7 := A4 7 (by decide)
  have z8 : w2.cell? ⟨w.heap.size + 1 + 1, 8, none⟩ = some (.int .i64 0) := A3 8 (by decide)
  have y8 := A4 8 (by decide)
  have hb2 : Below w.heap.size w w2 := bthen (by repeat' (first | with_reducible exact Below.refl _ _ | refine Below.alloc ?_ (by simp <;> omega) _)) hb
  clear A3 A4 hb
  go_wp2_with fail
  refine bodyPost_ret (v := .tuple #[.agg #[.int .i64 0, .int .i64 0, .int .i64 0, .int .i64 0, .int .i64 0, .int .i64 0, .int .i64 0, .int .i64 0, .int .i64 0], .int .i64 2]) (by simp [results, Tryd.results41, go_sem, z0, y0, z1, y1, z2, y2, z3, y3, z4, y4, z5, y5, z6, y6, z7, y7, z8, y8]) rfl ⟨rfl, ?_⟩
  repeat' (first | (with_reducible exact hb2) | refine Below.setCell ?_ (by simp <;> omega) _)

set_option maxHeartbeats 4000000 in
theorem rall_yes (b : Nat → Int) (s e l : Int) (w : World) (h1 : rgt b = true) (h3 : lvs s e l = true) : Calls Tryd.prog 41 #[.agg #[.int .i64 (b 0), .int .i64 (b 1), .int .i64 (b 2), .int .i64 (b 3), .int .i64 (b 4), .int .i64 (b 5), .int .i64 (b 6), .int .i64 (b 7), .int .i64 (b 8)], .agg #[.int .i64 s, .int .i64 e], .int .i64 l] w fun r w' => r = .returned (.tuple #[.agg #[.int .i64 (scl (b 0) s e l), .int .i64 (scl (b 1) s e l), .int .i64 (scl (b 2) s e l), .int .i64 (scl (b 3) s e l), .int .i64 (scl (b 4) s e l), .int .i64 (scl (b 5) s e l), .int .i64 (scl (b 6) s e l), .int .i64 (scl (b 7) s e l), .int .i64 (scl (b 8) s e l)], .int .i64 0]) ∧ Below w.heap.size w w' := by
  obtain ⟨g, hg⟩ : ∃ g : Nat → Int, (fun i => scl (b i) s e l) = g := ⟨_, rfl⟩
  have hg' : ∀ i, scl (b i) s e l = g i := fun i => by rw [← hg]
  rw [hg' 0, hg' 1, hg' 2, hg' 3, hg' 4, hg' 5, hg' 6, hg' 7, hg' 8]
  have HS2 : Hid (∀ i : Nat, i < 9 → ∀ W, Calls Tryd.prog 40 #[.agg #[.int .i64 (b 0), .int .i64 (b 1), .int .i64 (b 2), .int .i64 (b 3), .int .i64 (b 4), .int .i64 (b 5), .int .i64 (b 6), .int .i64 (b 7), .int .i64 (b 8)], .int .u8 (i : Int), .agg #[.int .i64 s, .int .i64 e], .int .i64 l] W fun r w' => r = .returned (.tuple #[.int .i64 (g i), .int .i64 0]) ∧ Below W.heap.size W w') := fun i hi W => by
    have := rof_any b (i : Int) s e l W (by omega)
    rw [ofE_yes b s e l h1 h3 i hi, hg' i] at this
    exact this
  clear hg hg' h1 h3
  go_enter Tryd.func41, Tryd.ntmps41
  go_wp2_with fail
  generalize hW : World.alloc (World.alloc (World.alloc (World.alloc w _) _) _) _ = W
  have A1 : Nine W w.heap.size b := by
    subst hW
    refine Nine.below ?_ ((Below.refl _ _).alloc (Nat.le_refl _) _)
    refine Nine.below ?_ ((Below.refl _ _).alloc (Nat.le_refl _) _)
    refine Nine.below ?_ ((Below.refl _ _).alloc (Nat.le_refl _) _)
    exact Nine.new w b 41 rfl
  have A3 : Nine W (w.heap.size + 1 + 1) (fun _ => 0) := by
    subst hW
    refine Nine.below ?_ ((Below.refl _ _).alloc (Nat.le_refl _) _)
    exact Nine.new _ (fun _ => 0) 41 (by simp)
  have A4 : Free9 W (w.heap.size + 1 + 1) := by
    subst hW
    refine Free9.below ?_ (by simp <;> omega) ((Below.refl _ _).alloc (Nat.le_refl _) _)
    exact Free9.new _ _ 41 (by simp)
  have A5 : Nine W (w.heap.size + 1 + 1 + 1) (part g (fun _ => 0) 0) := by
    subst hW
    exact Nine.new _ (fun _ => 0) 41 (by simp)
  have A6 : Free9 W (w.heap.size + 1 + 1 + 1) := by
    subst hW
    exact Free9.new _ _ 41 (by simp)
  have c0 : W.cell? ⟨w.heap.size + 1, 0, none⟩ = some (.int .i64 s) := by subst hW; simp [go_sem]
  have c1 : W.cell? ⟨w.heap.size + 1, 1, none⟩ = some (.int .i64 e) := by subst hW; simp [go_sem]
  have hb2 : Below w.heap.size w W := by
    subst hW
    repeat' (first | with_reducible exact Below.refl _ _ | refine Below.alloc ?_ (by simp <;> omega) _)
  clear hW
  have HA1 := Lib.hid A1
  have HA3 := Lib.hid A3
  have HA4 := Lib.hid A4
  have HA5 := Lib.hid A5
  have HA6 := Lib.hid A6
  clear A1 A3 A4 A5 A6
  go_loopw [9] (fun i wr => ∃ k : Nat, k ≤ 9 ∧ i = .int .u8 k ∧ Hid (Nine wr w.heap.size b) ∧ Hid (Nine wr (w.heap.size + 1 + 1) (fun _ => 0)) ∧ Hid (Free9 wr (w.heap.size + 1 + 1)) ∧ Hid (Nine wr (w.heap.size + 1 + 1 + 1) (part g (fun _ => 0) k)) ∧ Hid (Free9 wr (w.heap.size + 1 + 1 + 1)) ∧ wr.cell? ⟨w.heap.size + 1, 0, none⟩ = some (.int .i64 s) ∧ wr.cell? ⟨w.heap.size + 1, 1, none⟩ = some (.int .i64 e) ∧ Below w.heap.size w wr) (fun i _ => 9 - (intOf i).toNat)
  case atStart => exact ⟨0, by omega, rfl, HA1, HA3, HA4, HA5, HA6, c0, c1, hb2⟩
  case round =>
    clear HA1 HA3 HA4 HA5 HA6 c0 c1 hb2
    obtain ⟨k, hk, rfl, P1, P3, P4, P5, P6, c0, c1, hb2⟩ := hrel
    have hz := cell_lt (P5.out 0 (by decide))
    simp only at hz
    by_cases hlt : k < 9
    · have HC := Lib.hid (HS2.out k hlt)
      have n0 := P1.out 0 (by decide)
      have n1 := P1.out 1 (by decide)
      have n2 := P1.out 2 (by decide)
      have n3 := P1.out 3 (by decide)
      have n4 := P1.out 4 (by decide)
      have n5 := P1.out 5 (by decide)
      have n6 := P1.out 6 (by decide)
      have n7 := P1.out 7 (by decide)
      have n8 := P1.out 8 (by decide)
      go_wp2_with fail
      refine (HC.out _).mono ?_
      rintro r w2 ⟨rfl, hb⟩
      have f0 := (P6.out.below hz hb) k hlt
      have p0 := (P5.out.below hb) k hlt
      have N1 := Lib.hid ((P1.out.below hb).other (m := w.heap.size + 1 + 1 + 1) (k := k) (v := .int .i64 (g k)) (by omega))
      have N3 := Lib.hid ((P3.out.below hb).other (m := w.heap.size + 1 + 1 + 1) (k := k) (v := .int .i64 (g k)) (by omega))
      have N4 := Lib.hid ((P4.out.below (by omega) hb).set ⟨w.heap.size + 1 + 1 + 1, k, none⟩ (.int .i64 (g k)))
      have N5 := Lib.hid ((P5.out.below hb).set hlt)
      have N6 := Lib.hid ((P6.out.below hz hb).set ⟨w.heap.size + 1 + 1 + 1, k, none⟩ (.int .i64 (g k)))
      have e0 := (World.cell?_setCell_other w2 ⟨w.heap.size + 1 + 1 + 1, k, none⟩ _ (.int .i64 (g k)) (fun e => by injection e; omega)).trans (kcp hb c0)
      have e1 := (World.cell?_setCell_other w2 ⟨w.heap.size + 1 + 1 + 1, k, none⟩ _ (.int .i64 (g k)) (fun e => by injection e; omega)).trans (kcp hb c1)
      have hb3 := (bthen hb2 hb).setCell (show w.heap.size ≤ (⟨w.heap.size + 1 + 1 + 1, k, none⟩ : Addr).block by simp only; omega) (.int .i64 (g k))
      clear n0 n1 n2 n3 n4 n5 n6 n7 n8
      go_wp2_with fail
      go_roundw
      case rel => exact ⟨k + 1, by omega, by go_num, N1, N3, N4, N5, N6, e0, e1, hb3⟩
      case measure => simp [intOf]; omega
    · obtain rfl : k = 9 := by omega
      have n0 : wr.cell? ⟨w.heap.size + 1 + 1 + 1, 0, none⟩ = some (.int .i64 (g 0)) := P5.out 0 (by decide)
      have n1 : wr.cell? ⟨w.heap.size + 1 + 1 + 1, 1, none⟩ = some (.int .i64 (g 1)) := P5.out 1 (by decide)
      have n2 : wr.cell? ⟨w.heap.size + 1 + 1 + 1, 2, none⟩ = some (.int .i64 (g 2)) := P5.out 2 (by decide)
      have n3 : wr.cell? ⟨w.heap.size + 1 + 1 + 1, 3, none⟩ = some (.int .i64 (g 3)) := P5.out 3 (by decide)
      have n4 : wr.cell? ⟨w.heap.size + 1 + 1 + 1, 4, none⟩ = some (.int .i64 (g 4)) := P5.out 4 (by decide)
      have n5 : wr.cell? ⟨w.heap.size + 1 + 1 + 1, 5, none⟩ = some (.int .i64 (g 5)) := P5.out 5 (by decide)
      have n6 : wr.cell? ⟨w.heap.size + 1 + 1 + 1, 6, none⟩ = some (.int .i64 (g 6)) := P5.out 6 (by decide)
      have n7 : wr.cell? ⟨w.heap.size + 1 + 1 + 1, 7, none⟩ = some (.int .i64 (g 7)) := P5.out 7 (by decide)
      have n8 : wr.cell? ⟨w.heap.size + 1 + 1 + 1, 8, none⟩ = some (.int .i64 (g 8)) := P5.out 8 (by decide)
      have A3 := P3.out
      have A4 := P4.out
      have z0 : wr.cell? ⟨w.heap.size + 1 + 1, 0, none⟩ = some (.int .i64 0) := A3 0 (by decide)
      have y0 := A4 0 (by decide)
      have z1 : wr.cell? ⟨w.heap.size + 1 + 1, 1, none⟩ = some (.int .i64 0) := A3 1 (by decide)
      have y1 := A4 1 (by decide)
      have z2 : wr.cell? ⟨w.heap.size + 1 + 1, 2, none⟩ = some (.int .i64 0) := A3 2 (by decide)
      have y2 := A4 2 (by decide)
      have z3 : wr.cell? ⟨w.heap.size + 1 + 1, 3, none⟩ = some (.int .i64 0) := A3 3 (by decide)
      have y3 := A4 3 (by decide)
      have z4 : wr.cell? ⟨w.heap.size + 1 + 1, 4, none⟩ = some (.int .i64 0) := A3 4 (by decide)
      have y4 := A4 4 (by decide)
      have z5 : wr.cell? ⟨w.heap.size + 1 + 1, 5, none⟩ = some (.int .i64 0) := A3 5 (by decide)
      have y5 := A4 5 (by decide)
      have z6 : wr.cell? ⟨w.heap.size + 1 + 1, 6, none⟩ = some (.int .i64 0) := A3 6 (by decide)
      have y6 := A4 6 (by decide)
      have z7 : wr.cell? ⟨w.heap.size + 1 + 1, 7, none⟩ = some (.int .i64 0) := A3 7 (by decide)
      have y7 := A4 7 (by decide)
      have z8 : wr.cell? ⟨w.heap.size + 1 + 1, 8, none⟩ = some (.int .i64 0) := A3 8 (by decide)
      have y8 := A4 8 (by decide)
      clear A3 A4
      go_wp2_with fail
      refine bodyPost_ret (v := .tuple #[.agg #[.int .i64 (g 0), .int .i64 (g 1), .int .i64 (g 2), .int .i64 (g 3), .int .i64 (g 4), .int .i64 (g 5), .int .i64 (g 6), .int .i64 (g 7), .int .i64 (g 8)], .int .i64 0]) (by simp [results, Tryd.results41, go_sem, z0, y0, z1, y1, z2, y2, z3, y3, z4, y4, z5, y5, z6, y6, z7, y7, z8, y8]) rfl ⟨rfl, ?_⟩
      repeat' (first | (with_reducible exact hb2) | refine Below.setCell ?_ (by simp <;> omega) _)

end Go.Proofs.YtkcgijkccpiljaaDoor
