/-
  The contracts of timeout.All and of the reference's All.
-/
import Derived.Test.YtkcgijkccpiljaaDoorRight
import Derived.Deep.MidRow
namespace Go.Proofs.YtkcgijkccpiljaaDoor
open Go.RowKit
set_option linter.unusedVariables false
set_option linter.unusedSimpArgs false

/-- Nine cells that may be written. -/
def Free9 (w : World) (n : Nat) : Prop := ∀ i, i < 9 → w.frozen? ⟨n, i, none⟩ = false
theorem Free9.new (w : World) (c : Array Value) (t : TypeId) {n : Nat} (hn : n = w.heap.size) : Free9 (w.alloc (.cells c t)) n := by
  intro i hi
  subst hn
  simp [go_sem]
theorem Free9.below {w w' : World} {n : Nat} (h : Free9 w n) (hn : n < w.heap.size) (hb : Below w.heap.size w w') : Free9 w' n := fun i hi => (hb.frozen (p := ⟨n, i, none⟩) hn).trans (h i hi)
theorem Free9.set {w : World} {n : Nat} (h : Free9 w n) (a : Addr) (v : Value) : Free9 (w.setCell a v) n := fun i hi => by
  rw [World.frozen?_setCell]
  exact h i hi
/-- A list being filled: the first k are new. -/
def part (f b : Nat → Int) (k : Nat) : Nat → Int := fun i => if i < k then f i else b i
theorem Nine.set {w : World} {n : Nat} {f b : Nat → Int} {k : Nat} (hk : k < 9) (h : Nine w n (part f b k)) : Nine (w.setCell ⟨n, k, none⟩ (.int .i64 (f k))) n (part f b (k + 1)) := by
  intro i hi
  by_cases hik : i = k
  · subst hik
    rw [World.cell?_setCell_same _ _ _ (h i hk)]
    simp [part]
  · rw [World.cell?_setCell_other _ _ _ _ (fun e => by injection e; omega), h i hi]
    have : (i < k) = (i < k + 1) := by
      apply propext
      omega
    simp [part, this]
theorem Nine.other {w : World} {n m k : Nat} {b : Nat → Int} {v : Value} (h : Nine w n b) (hne : m ≠ n) : Nine (w.setCell ⟨m, k, none⟩ v) n b := fun i hi => by
  rw [World.cell?_setCell_other _ _ _ _ (fun e => hne (by injection e))]
  exact h i hi

set_option maxHeartbeats 1000000 in
theorem all_no (b : Nat → Int) (s e l : Int) (w : World) (h : (rgt b && lvs s e l) = false) : Calls Tryd.prog 23 #[.agg #[.int .i64 (b 0), .int .i64 (b 1), .int .i64 (b 2), .int .i64 (b 3), .int .i64 (b 4), .int .i64 (b 5), .int .i64 (b 6), .int .i64 (b 7), .int .i64 (b 8)], .agg #[.int .i64 s, .int .i64 e], .int .i64 l] w fun r w' => r = .returned (.tuple #[.agg #[.int .i64 0, .int .i64 0, .int .i64 0, .int .i64 0, .int .i64 0, .int .i64 0, .int .i64 0, .int .i64 0, .int .i64 0], .int .i64 2]) ∧ Below w.heap.size w w' := by
  have HR := Lib.hid (fun W => right_any b W)
  have HL := Lib.hid (fun W => lives_any s e l W)
  generalize rgt b = p at *
  generalize lvs s e l = q at *
  cases p
  · clear h
    go_enter Tryd.func23, Tryd.ntmps23
    go_wp2_with fail
    refine (HR.out _).mono ?_
    rintro e w1 ⟨rfl, rfl⟩
    go_wp2_with fail
    refine bodyPost_ret (v := .tuple #[.agg #[.int .i64 0, .int .i64 0, .int .i64 0, .int .i64 0, .int .i64 0, .int .i64 0, .int .i64 0, .int .i64 0, .int .i64 0], .int .i64 2]) (by simp [results, Tryd.results23, go_sem]) rfl ⟨rfl, ?_⟩
    repeat' (first | exact Below.refl _ _ | refine Below.setCell ?_ (by simp <;> omega) _ | refine Below.alloc ?_ (by simp <;> omega) _)
  · cases q
    · clear h
      go_enter Tryd.func23, Tryd.ntmps23
      go_wp2_with fail
      refine (HR.out _).mono ?_
      rintro e w1 ⟨rfl, rfl⟩
      go_wp2_with fail
      refine (HL.out _).mono ?_
      rintro e w2 ⟨rfl, hb⟩
      have A3 : Nine w2 (w.heap.size + 1 + 1) (fun _ => 0) := by
        refine Nine.below ?_ hb
        refine Nine.below ?_ ((Below.refl _ _).alloc (Nat.le_refl _) _)
        exact Nine.new _ (fun _ => 0) 42 (by simp)
      have A4 : Free9 w2 (w.heap.size + 1 + 1) := by
        refine Free9.below ?_ (by simp) hb
        refine Free9.below ?_ (by simp) ((Below.refl _ _).alloc (Nat.le_refl _) _)
        exact Free9.new _ _ 42 (by simp)
      have z0 : w2.cell? ⟨w.heap.size + 1 + 1, 0, none⟩ = some (.int .i64 0) := A3 0 (by decide)
      have y0 := A4 0 (by decide)
      have z1 : w2.cell? ⟨w.heap.size + 1 + 1, 1, none⟩ = some (.int .i64 0) := A3 1 (by decide)
      have y1 := A4 1 (by decide)
      have z2 : w2.cell? ⟨w.heap.size + 1 + 1, 2, none⟩ = some (.int .i64 0) := A3 2 (by decide)
      have y2 := A4 2 (by decide)
      have z3 : w2.cell? ⟨w.heap.size + 1 + 1, 3, none⟩ = some (.int .i64 0) := A3 3 (by decide)
      have y3 := A4 3 (by decide)
      have z4 : w2.cell? ⟨w.heap.size + 1 + 1, 4, none⟩ = some (.int .i64 0) := A3 4 (by decide)
      have y4 := A4 4 (by decide)
      have z5 : w2.cell? ⟨w.heap.size + 1 + 1, 5, none⟩ = some (.int .i64 0) := A3 5 (by decide)
      have y5 := A4 5 (by decide)
      have z6 : w2.cell? ⟨w.heap.size + 1 + 1, 6, none⟩ = some (.int .i64 0) := A3 6 (by decide)
      have y6 := A4 6 (by decide)
      have z7 : w2.cell? ⟨w.heap.size + 1 + 1, 7, none⟩ = some (.int .i64 0) := A3 7 (by decide)
      have y7 := A4 7 (by decide)
      have z8 : w2.cell? ⟨w.heap.size + 1 + 1, 8, none⟩ = some (.int .i64 0) := A3 8 (by decide)
      have y8 := A4 8 (by decide)
      have hb2 : Below w.heap.size w w2 := bthen (by repeat' (first | exact Below.refl _ _ | refine Below.alloc ?_ (by simp <;> omega) _)) hb
      clear A3 A4 hb
      go_wp2_with fail
      refine bodyPost_ret (v := .tuple #[.agg #[.int .i64 0, .int .i64 0, .int .i64 0, .int .i64 0, .int .i64 0, .int .i64 0, .int .i64 0, .int .i64 0, .int .i64 0], .int .i64 2]) (by simp [results, Tryd.results23, go_sem, z0, y0, z1, y1, z2, y2, z3, y3, z4, y4, z5, y5, z6, y6, z7, y7, z8, y8]) rfl ⟨rfl, ?_⟩
      repeat' (first | (with_reducible exact hb2) | refine Below.setCell ?_ (by simp <;> omega) _)
    · cases h

set_option maxHeartbeats 4000000 in
theorem all_yes (b : Nat → Int) (s e l : Int) (w : World) (h1 : rgt b = true) (h3 : lvs s e l = true) : Calls Tryd.prog 23 #[.agg #[.int .i64 (b 0), .int .i64 (b 1), .int .i64 (b 2), .int .i64 (b 3), .int .i64 (b 4), .int .i64 (b 5), .int .i64 (b 6), .int .i64 (b 7), .int .i64 (b 8)], .agg #[.int .i64 s, .int .i64 e], .int .i64 l] w fun r w' => r = .returned (.tuple #[.agg #[.int .i64 (scl (b 0) s e l), .int .i64 (scl (b 1) s e l), .int .i64 (scl (b 2) s e l), .int .i64 (scl (b 3) s e l), .int .i64 (scl (b 4) s e l), .int .i64 (scl (b 5) s e l), .int .i64 (scl (b 6) s e l), .int .i64 (scl (b 7) s e l), .int .i64 (scl (b 8) s e l)], .int .i64 0]) ∧ Below w.heap.size w w' := by
  have HR := Lib.hid (fun W => right_any b W)
  have HL := Lib.hid (fun W => lives_any s e l W)
  obtain ⟨k1, k2, k3, k4, k5⟩ := lvs_true h3
  have HS : Hid (∀ i, i < 9 → ∀ W, Calls Tryd.prog 35 #[.agg #[.int .i64 s, .int .i64 e], .int .i64 (b i), .int .i64 l] W fun r w' => r = .returned (.int .i64 (scl (b i) s e l)) ∧ w' = W.alloc (.cells #[.int .i64 s, .int .i64 e] 23)) := fun i hi W => by
    obtain ⟨q1, q2⟩ := tmd_true (rgt_true h1 i hi)
    exact scaled_box (b i) s e l W q1 q2 k1 k2 k3 k4 k5
  rw [h1] at HR
  rw [h3] at HL
  clear h1 h3 k1 k2 k3 k4 k5
  obtain ⟨g, hg⟩ : ∃ g : Nat → Int, (fun i => scl (b i) s e l) = g := ⟨_, rfl⟩
  have hg' : ∀ i, scl (b i) s e l = g i := fun i => by rw [← hg]
  rw [hg' 0, hg' 1, hg' 2, hg' 3, hg' 4, hg' 5, hg' 6, hg' 7, hg' 8]
  have HS2 : Hid (∀ i, i < 9 → ∀ W, Calls Tryd.prog 35 #[.agg #[.int .i64 s, .int .i64 e], .int .i64 (b i), .int .i64 l] W fun r w' => r = .returned (.int .i64 (g i)) ∧ w' = W.alloc (.cells #[.int .i64 s, .int .i64 e] 23)) := fun i hi W => by rw [← hg' i]; exact HS.out i hi W
  clear hg hg' HS
  go_enter Tryd.func23, Tryd.ntmps23
  go_wp2_with fail
  refine (HR.out _).mono ?_
  rintro r w1 ⟨rfl, rfl⟩
  go_wp2_with fail
  refine (HL.out _).mono ?_
  rintro r w2 ⟨rfl, hb⟩
  have A1 : Nine w2 w.heap.size b := by
    refine Nine.below ?_ hb
    refine Nine.below ?_ ((Below.refl _ _).alloc (Nat.le_refl _) _)
    refine Nine.below ?_ ((Below.refl _ _).alloc (Nat.le_refl _) _)
    refine Nine.below ?_ ((Below.refl _ _).alloc (Nat.le_refl _) _)
    exact Nine.new w b 42 rfl
  have A2 : Free9 w2 w.heap.size := by
    refine Free9.below ?_ (by simp <;> omega) hb
    refine Free9.below ?_ (by simp <;> omega) ((Below.refl _ _).alloc (Nat.le_refl _) _)
    refine Free9.below ?_ (by simp <;> omega) ((Below.refl _ _).alloc (Nat.le_refl _) _)
    refine Free9.below ?_ (by simp) ((Below.refl _ _).alloc (Nat.le_refl _) _)
    exact Free9.new w _ 42 rfl
  have A3 : Nine w2 (w.heap.size + 1 + 1) (fun _ => 0) := by
    refine Nine.below ?_ hb
    refine Nine.below ?_ ((Below.refl _ _).alloc (Nat.le_refl _) _)
    exact Nine.new _ (fun _ => 0) 42 (by simp)
  have A4 : Free9 w2 (w.heap.size + 1 + 1) := by
    refine Free9.below ?_ (by simp <;> omega) hb
    refine Free9.below ?_ (by simp) ((Below.refl _ _).alloc (Nat.le_refl _) _)
    exact Free9.new _ _ 42 (by simp)
  have c0 : w2.cell? ⟨w.heap.size + 1, 0, none⟩ = some (.int .i64 s) := kcp hb (by simp [go_sem])
  have c1 : w2.cell? ⟨w.heap.size + 1, 1, none⟩ = some (.int .i64 e) := kcp hb (by simp [go_sem])
  have hb2 : Below w.heap.size w w2 := bthen (by repeat' (first | exact Below.refl _ _ | refine Below.alloc ?_ (by simp <;> omega) _)) hb
  clear hb
  have n0 := A1 0 (by decide)
  have n1 := A1 1 (by decide)
  have n2 := A1 2 (by decide)
  have n3 := A1 3 (by decide)
  have n4 := A1 4 (by decide)
  have n5 := A1 5 (by decide)
  have n6 := A1 6 (by decide)
  have n7 := A1 7 (by decide)
  have n8 := A1 8 (by decide)
  have HA1 := Lib.hid A1
  have HA2 := Lib.hid A2
  have HA3 := Lib.hid A3
  have HA4 := Lib.hid A4
  clear A1 A2 A3 A4
  have i0 : ∀ w, (Instr.index 42 (.agg #[.int .i64 (b 0), .int .i64 (b 1), .int .i64 (b 2), .int .i64 (b 3), .int .i64 (b 4), .int .i64 (b 5), .int .i64 (b 6), .int .i64 (b 7), .int .i64 (b 8)]) (.int .i64 0)).run Tryd.prog w = .ok (.int .i64 (b 0)) w := fun _ => by kernel_rfl
  have i1 : ∀ w, (Instr.index 42 (.agg #[.int .i64 (b 0), .int .i64 (b 1), .int .i64 (b 2), .int .i64 (b 3), .int .i64 (b 4), .int .i64 (b 5), .int .i64 (b 6), .int .i64 (b 7), .int .i64 (b 8)]) (.int .i64 1)).run Tryd.prog w = .ok (.int .i64 (b 1)) w := fun _ => by kernel_rfl
  have i2 : ∀ w, (Instr.index 42 (.agg #[.int .i64 (b 0), .int .i64 (b 1), .int .i64 (b 2), .int .i64 (b 3), .int .i64 (b 4), .int .i64 (b 5), .int .i64 (b 6), .int .i64 (b 7), .int .i64 (b 8)]) (.int .i64 2)).run Tryd.prog w = .ok (.int .i64 (b 2)) w := fun _ => by kernel_rfl
  have i3 : ∀ w, (Instr.index 42 (.agg #[.int .i64 (b 0), .int .i64 (b 1), .int .i64 (b 2), .int .i64 (b 3), .int .i64 (b 4), .int .i64 (b 5), .int .i64 (b 6), .int .i64 (b 7), .int .i64 (b 8)]) (.int .i64 3)).run Tryd.prog w = .ok (.int .i64 (b 3)) w := fun _ => by kernel_rfl
  have i4 : ∀ w, (Instr.index 42 (.agg #[.int .i64 (b 0), .int .i64 (b 1), .int .i64 (b 2), .int .i64 (b 3), .int .i64 (b 4), .int .i64 (b 5), .int .i64 (b 6), .int .i64 (b 7), .int .i64 (b 8)]) (.int .i64 4)).run Tryd.prog w = .ok (.int .i64 (b 4)) w := fun _ => by kernel_rfl
  have i5 : ∀ w, (Instr.index 42 (.agg #[.int .i64 (b 0), .int .i64 (b 1), .int .i64 (b 2), .int .i64 (b 3), .int .i64 (b 4), .int .i64 (b 5), .int .i64 (b 6), .int .i64 (b 7), .int .i64 (b 8)]) (.int .i64 5)).run Tryd.prog w = .ok (.int .i64 (b 5)) w := fun _ => by kernel_rfl
  have i6 : ∀ w, (Instr.index 42 (.agg #[.int .i64 (b 0), .int .i64 (b 1), .int .i64 (b 2), .int .i64 (b 3), .int .i64 (b 4), .int .i64 (b 5), .int .i64 (b 6), .int .i64 (b 7), .int .i64 (b 8)]) (.int .i64 6)).run Tryd.prog w = .ok (.int .i64 (b 6)) w := fun _ => by kernel_rfl
  have i7 : ∀ w, (Instr.index 42 (.agg #[.int .i64 (b 0), .int .i64 (b 1), .int .i64 (b 2), .int .i64 (b 3), .int .i64 (b 4), .int .i64 (b 5), .int .i64 (b 6), .int .i64 (b 7), .int .i64 (b 8)]) (.int .i64 7)).run Tryd.prog w = .ok (.int .i64 (b 7)) w := fun _ => by kernel_rfl
  have i8 : ∀ w, (Instr.index 42 (.agg #[.int .i64 (b 0), .int .i64 (b 1), .int .i64 (b 2), .int .i64 (b 3), .int .i64 (b 4), .int .i64 (b 5), .int .i64 (b 6), .int .i64 (b 7), .int .i64 (b 8)]) (.int .i64 8)).run Tryd.prog w = .ok (.int .i64 (b 8)) w := fun _ => by kernel_rfl
  go_wp2_with fail
  clear n0 n1 n2 n3 n4 n5 n6 n7 n8
  go_loopw [21] (fun i wr => ∃ k : Nat, k ≤ 9 ∧ i = .int .i64 k ∧ Hid (Nine wr w.heap.size (part g b k)) ∧ Hid (Free9 wr w.heap.size) ∧ Hid (Nine wr (w.heap.size + 1 + 1) (fun _ => 0)) ∧ Hid (Free9 wr (w.heap.size + 1 + 1)) ∧ wr.cell? ⟨w.heap.size + 1, 0, none⟩ = some (.int .i64 s) ∧ wr.cell? ⟨w.heap.size + 1, 1, none⟩ = some (.int .i64 e) ∧ Below w.heap.size w wr) (fun i _ => 9 - (intOf i).toNat)
  case atStart => exact ⟨0, by omega, rfl, HA1, HA2, HA3, HA4, c0, c1, hb2⟩
  case round =>
    clear HA1 HA2 HA3 HA4 c0 c1 hb2
    obtain ⟨k, hk, rfl, P1, P2, P3, P4, c0, c1, hb2⟩ := hrel
    have hz := cell_lt (P3.out 0 (by decide))
    simp only at hz
    have hz0 : w.heap.size < wr.heap.size := by omega
    by_cases hlt : k < 9
    · have HC := Lib.hid (HS2.out k hlt)
      have f0 := P2.out k hlt
      have p0 := P1.out k hlt
      have N1 := Lib.hid (P1.out.set hlt)
      have N2 := Lib.hid (P2.out.set ⟨w.heap.size, k, none⟩ (.int .i64 (g k)))
      have N3 := Lib.hid (P3.out.other (m := w.heap.size) (k := k) (v := .int .i64 (g k)) (by omega))
      have N4 := Lib.hid (P4.out.set ⟨w.heap.size, k, none⟩ (.int .i64 (g k)))
      rcases nine_cases hlt with rfl | rfl | rfl | rfl | rfl | rfl | rfl | rfl | rfl
      all_goals
        go_wp2_with (go_at_call 35; ((with_reducible refine (HC.out _).mono ?_); rintro r w' ⟨rfl, rfl⟩))
        go_roundw
        case rel =>
          refine ⟨_, (by decide), rfl, N1.out.below ((Below.refl _ _).alloc (Nat.le_refl _) _), N2.out.below (by simpa using hz0) ((Below.refl _ _).alloc (Nat.le_refl _) _), N3.out.below ((Below.refl _ _).alloc (Nat.le_refl _) _), N4.out.below (by simpa using hz) ((Below.refl _ _).alloc (Nat.le_refl _) _), ?_, ?_, (hb2.setCell (Nat.le_refl _) _).alloc (by simpa using hb2.size) _⟩
          · exact kcp ((Below.refl _ _).alloc (Nat.le_refl _) _) ((World.cell?_setCell_other _ _ _ _ (fun e => by injection e; omega)).trans c0)
          · exact kcp ((Below.refl _ _).alloc (Nat.le_refl _) _) ((World.cell?_setCell_other _ _ _ _ (fun e => by injection e; omega)).trans c1)
        case measure => simp [intOf]
    · obtain rfl : k = 9 := by omega
      have n0 : wr.cell? ⟨w.heap.size, 0, none⟩ = some (.int .i64 (g 0)) := P1.out 0 (by decide)
      have n1 : wr.cell? ⟨w.heap.size, 1, none⟩ = some (.int .i64 (g 1)) := P1.out 1 (by decide)
      have n2 : wr.cell? ⟨w.heap.size, 2, none⟩ = some (.int .i64 (g 2)) := P1.out 2 (by decide)
      have n3 : wr.cell? ⟨w.heap.size, 3, none⟩ = some (.int .i64 (g 3)) := P1.out 3 (by decide)
      have n4 : wr.cell? ⟨w.heap.size, 4, none⟩ = some (.int .i64 (g 4)) := P1.out 4 (by decide)
      have n5 : wr.cell? ⟨w.heap.size, 5, none⟩ = some (.int .i64 (g 5)) := P1.out 5 (by decide)
      have n6 : wr.cell? ⟨w.heap.size, 6, none⟩ = some (.int .i64 (g 6)) := P1.out 6 (by decide)
      have n7 : wr.cell? ⟨w.heap.size, 7, none⟩ = some (.int .i64 (g 7)) := P1.out 7 (by decide)
      have n8 : wr.cell? ⟨w.heap.size, 8, none⟩ = some (.int .i64 (g 8)) := P1.out 8 (by decide)
      have z0 : wr.cell? ⟨w.heap.size + 1 + 1, 0, none⟩ = some (.int .i64 0) := P3.out 0 (by decide)
      have y0 := P4.out 0 (by decide)
      have z1 : wr.cell? ⟨w.heap.size + 1 + 1, 1, none⟩ = some (.int .i64 0) := P3.out 1 (by decide)
      have y1 := P4.out 1 (by decide)
      have z2 : wr.cell? ⟨w.heap.size + 1 + 1, 2, none⟩ = some (.int .i64 0) := P3.out 2 (by decide)
      have y2 := P4.out 2 (by decide)
      have z3 : wr.cell? ⟨w.heap.size + 1 + 1, 3, none⟩ = some (.int .i64 0) := P3.out 3 (by decide)
      have y3 := P4.out 3 (by decide)
      have z4 : wr.cell? ⟨w.heap.size + 1 + 1, 4, none⟩ = some (.int .i64 0) := P3.out 4 (by decide)
      have y4 := P4.out 4 (by decide)
      have z5 : wr.cell? ⟨w.heap.size + 1 + 1, 5, none⟩ = some (.int .i64 0) := P3.out 5 (by decide)
      have y5 := P4.out 5 (by decide)
      have z6 : wr.cell? ⟨w.heap.size + 1 + 1, 6, none⟩ = some (.int .i64 0) := P3.out 6 (by decide)
      have y6 := P4.out 6 (by decide)
      have z7 : wr.cell? ⟨w.heap.size + 1 + 1, 7, none⟩ = some (.int .i64 0) := P3.out 7 (by decide)
      have y7 := P4.out 7 (by decide)
      have z8 : wr.cell? ⟨w.heap.size + 1 + 1, 8, none⟩ = some (.int .i64 0) := P3.out 8 (by decide)
      have y8 := P4.out 8 (by decide)
      go_wp2_with fail
      refine bodyPost_ret (v := .tuple #[.agg #[.int .i64 (g 0), .int .i64 (g 1), .int .i64 (g 2), .int .i64 (g 3), .int .i64 (g 4), .int .i64 (g 5), .int .i64 (g 6), .int .i64 (g 7), .int .i64 (g 8)], .int .i64 0]) (by simp [results, Tryd.results23, go_sem, z0, y0, z1, y1, z2, y2, z3, y3, z4, y4, z5, y5, z6, y6, z7, y7, z8, y8]) rfl ⟨rfl, ?_⟩
      repeat' (first | (with_reducible exact hb2) | refine Below.setCell ?_ (by simp <;> omega) _ | refine Below.alloc ?_ (by simp <;> omega) _)

end Go.Proofs.YtkcgijkccpiljaaDoor
