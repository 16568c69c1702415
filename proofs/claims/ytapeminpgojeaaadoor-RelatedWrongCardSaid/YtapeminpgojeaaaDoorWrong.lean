/-
  The walk of RelatedWrong: sides that there are not, and errors that are none, belong to nothing.
-/
import Derived.Test.YtapeminpgojeaaaDoorOneP
import Derived.Test.YtapeminpgojeaaaDoorTurned
namespace Go.Proofs.YtapeminpgojeaaaDoor
open Go.RowKit
set_option linter.unusedVariables false
set_option linter.unusedSimpArgs false

theorem range_under {B : Nat} {w w' : World} {b o : Nat} {cs : List Value} (hb : Below B w w') (hlt : b < B) (h : w.rangeAt b o cs) : w'.rangeAt b o cs := fun j v hv =>
  (hb.cell (p := ⟨b, o + j, none⟩) hlt).trans (h j v hv)
theorem cell_under {B : Nat} {w w' : World} {b o : Nat} {v : Value} (hb : Below B w w') (hlt : b < B) (h : w.cell? ⟨b, o, none⟩ = some v) : w'.cell? ⟨b, o, none⟩ = some v :=
  (hb.cell (p := ⟨b, o, none⟩) hlt).trans h
theorem rd_new (w : World) (css : List (List Value)) (t : TypeId) (size : Nat) (h : ∀ cs ∈ css, cs.length = size) : Rd (w.alloc (.cells css.flatten.toArray t)) (some ⟨w.heap.size, 0, none⟩) size css :=
  ⟨h, fun _ => ⟨w.heap.size, 0, rfl, by simp, fun i cs hi j v hv => by
    have := range_new w css.flatten.toArray t (i * size + j) v (by simpa using get_flatten h i cs j v hi hv)
    rw [Nat.add_assoc]
    exact this⟩⟩
theorem info27z : ∃ ie z, Tryd.prog.info? 27 = some ie ∧ ie.zero = some z ∧ ie.size = 6 := by
  have h : (Tryd.prog.info? 27).map (fun i => (i.zero.isSome, i.size)) = some (true, 6) := by kernel_rfl
  cases hi : Tryd.prog.info? 27 with
  | none => rw [hi] at h; cases h
  | some ie =>
    rw [hi] at h
    simp at h
    obtain ⟨h1, h2⟩ := h
    obtain ⟨z, hz⟩ := Option.isSome_iff_exists.1 h1
    exact ⟨ie, z, rfl, hz, h2⟩

set_option maxRecDepth 100000 in
set_option maxHeartbeats 16000000 in
theorem wrong_core (p s d sp dp side dir n by' : Int) (P S E q0 c1 c2 c3 c4 ty kv fr q1 m2 m6 : Int) (w : World) (HT : Hid (Tabs w))
    (HR : Hid (∀ W, Calls Tryd.prog 13 #[.agg #[.int .u8 p, .int .u32 s, .int .u32 d, .int .u16 sp, .int .u16 dp], .int .u8 side] W fun e w' => e = .returned (.agg #[.int .u8 P, .int .u32 S, .int .u32 E, .int .u16 sp, .int .u16 dp, .int .u8 q0]) ∧ Below W.heap.size W w'))
    (HG : Hid (∀ W, Tabs W → Calls Tryd.prog 14 #[.agg #[.int .u8 P, .int .u32 S, .int .u32 E, .int .u16 sp, .int .u16 dp, .int .u8 q0], .int .u8 dir, .int .u32 by'] W fun e w' => e = .returned (.tuple #[.agg (gF c1 5 ty P c1 c2 c3 c4 kv by'), .int .u8 fr, .bool true]) ∧ Below W.heap.size W w'))
    (Hm2 : (if n < 2 then 2 else n) = m2) (Hm6 : (if n < 6 then 6 else n) = m6)
    (H5 : Hid (∀ W, Tabs W → Calls Tryd.prog 15 #[.agg #[.int .u8 P, .int .u32 S, .int .u32 E, .int .u16 sp, .int .u16 dp, .int .u8 m2], .agg (gF c1 5 ty P c1 c2 c3 c4 kv by'), .int .u8 fr] W fun e w' => e = .returned (.tuple #[.int .u8 0, .bool false]) ∧ Below W.heap.size W w'))
    (H6 : Hid (∀ W, Tabs W → Calls Tryd.prog 15 #[.agg #[.int .u8 P, .int .u32 S, .int .u32 E, .int .u16 sp, .int .u16 dp, .int .u8 q0], .agg (gF c1 5 ty P c1 c2 c3 c4 kv by'), .int .u8 m2] W fun e w' => e = .returned (.tuple #[.int .u8 0, .bool false]) ∧ Below W.heap.size W w'))
    (H7 : Hid (∀ W, Tabs W → Calls Tryd.prog 15 #[.agg #[.int .u8 P, .int .u32 S, .int .u32 E, .int .u16 sp, .int .u16 dp, .int .u8 q0], .agg (gF c1 m6 ty P c1 c2 c3 c4 kv by'), .int .u8 fr] W fun e w' => e = .returned (.tuple #[.int .u8 0, .bool false]) ∧ Below W.heap.size W w'))
    (H8 : Hid (∀ W A, Tabs W → Rd W A 6 [[.int .u8 P, .int .u32 S, .int .u32 E, .int .u16 sp, .int .u16 dp, .int .u8 m2], [.int .u8 P, .int .u32 S, .int .u32 E, .int .u16 sp, .int .u16 dp, .int .u8 q0]] → Calls Tryd.prog 22 #[.slice A 2 2, .agg (gF c1 5 ty P c1 c2 c3 c4 kv by'), .int .u8 fr] W fun e w' => e = .returned (.tuple #[.int .i64 1, .int .u8 q1, .bool true]) ∧ Below W.heap.size W w'))
    (H9 : Hid (∀ W A, Tabs W → Rd W A 6 [[.int .u8 P, .int .u32 S, .int .u32 E, .int .u16 sp, .int .u16 dp, .int .u8 m2], [.int .u8 P, .int .u32 S, .int .u32 E, .int .u16 sp, .int .u16 dp, .int .u8 m2]] → Calls Tryd.prog 22 #[.slice A 2 2, .agg (gF c1 5 ty P c1 c2 c3 c4 kv by'), .int .u8 fr] W fun e w' => e = .returned (.tuple #[.int .i64 (-1), .int .u8 0, .bool false]) ∧ Below W.heap.size W w'))
    (HQ1 : Hid (dir % 2 = q1)) (HQ1' : Hid (dir.tmod 2 = q1)) :
    Calls Tryd.prog 10 #[.agg #[.int .u8 p, .int .u32 s, .int .u32 d, .int .u16 sp, .int .u16 dp], .int .u8 side, .int .u8 dir, .int .u8 n, .int .u32 by'] w fun e w' => e = .returned (.bool true) ∧ Below w.heap.size w w' := by
  obtain ⟨ie, zz, hie, hz, hs⟩ := info27z
  have HIE := Lib.hid (And.intro hie (And.intro hz hs))
  clear hie hz hs
  go_enter Tryd.func10, Tryd.ntmps10
  go_wp2_with fail
  refine (awake_any _ (HT.out.below (by (repeat' (first | exact Below.refl _ _ | refine Below.setCell ?_ (by first | omega | (simp; done) | (simp; omega)) _ | refine Below.alloc ?_ (by first | omega | (simp; done) | (simp; omega)) _))))).mono ?_
  rintro e w1 ⟨rfl, hb⟩
  have b1 : Below w.heap.size w w1 := bthen (by (repeat' (first | exact Below.refl _ _ | refine Below.setCell ?_ (by first | omega | (simp; done) | (simp; omega)) _ | refine Below.alloc ?_ (by first | omega | (simp; done) | (simp; omega)) _))) hb
  have d1 : Below w.heap.size w w1 := b1
  have k1 : w.heap.size ≤ w1.heap.size := d1.size
  have x0_1 : w1.cell? ⟨w.heap.size, 0, none⟩ = some (.int .u8 p) := (hb.cell (p := ⟨w.heap.size, 0, none⟩) (by first | (simp; done) | (simp; omega))).trans (by simp [go_sem])
  have x1_1 : w1.cell? ⟨w.heap.size, 1, none⟩ = some (.int .u32 s) := (hb.cell (p := ⟨w.heap.size, 1, none⟩) (by first | (simp; done) | (simp; omega))).trans (by simp [go_sem])
  have x2_1 : w1.cell? ⟨w.heap.size, 2, none⟩ = some (.int .u32 d) := (hb.cell (p := ⟨w.heap.size, 2, none⟩) (by first | (simp; done) | (simp; omega))).trans (by simp [go_sem])
  have x3_1 : w1.cell? ⟨w.heap.size, 3, none⟩ = some (.int .u16 sp) := (hb.cell (p := ⟨w.heap.size, 3, none⟩) (by first | (simp; done) | (simp; omega))).trans (by simp [go_sem])
  have x4_1 : w1.cell? ⟨w.heap.size, 4, none⟩ = some (.int .u16 dp) := (hb.cell (p := ⟨w.heap.size, 4, none⟩) (by first | (simp; done) | (simp; omega))).trans (by simp [go_sem])
  have zx_1 : w.heap.size < w1.heap.size := by have := hb.size; simp at this; omega
  clear hb
  go_wp2_with fail
  refine (HR.out _).mono ?_
  rintro e w2 ⟨rfl, hb⟩
  have b2 : Below w1.heap.size w1 w2 := bthen (by (repeat' (first | exact Below.refl _ _ | refine Below.setCell ?_ (by first | omega | (simp; done) | (simp; omega)) _ | refine Below.alloc ?_ (by first | omega | (simp; done) | (simp; omega)) _))) hb
  have d2 : Below w.heap.size w w2 := bthen d1 b2
  have k2 : w.heap.size ≤ w2.heap.size := d2.size
  have x0_2 : w2.cell? ⟨w.heap.size, 0, none⟩ = some (.int .u8 p) := (b2.cell (p := ⟨w.heap.size, 0, none⟩) (by show w.heap.size < w1.heap.size; omega)).trans x0_1
  have x1_2 : w2.cell? ⟨w.heap.size, 1, none⟩ = some (.int .u32 s) := (b2.cell (p := ⟨w.heap.size, 1, none⟩) (by show w.heap.size < w1.heap.size; omega)).trans x1_1
  have x2_2 : w2.cell? ⟨w.heap.size, 2, none⟩ = some (.int .u32 d) := (b2.cell (p := ⟨w.heap.size, 2, none⟩) (by show w.heap.size < w1.heap.size; omega)).trans x2_1
  have x3_2 : w2.cell? ⟨w.heap.size, 3, none⟩ = some (.int .u16 sp) := (b2.cell (p := ⟨w.heap.size, 3, none⟩) (by show w.heap.size < w1.heap.size; omega)).trans x3_1
  have x4_2 : w2.cell? ⟨w.heap.size, 4, none⟩ = some (.int .u16 dp) := (b2.cell (p := ⟨w.heap.size, 4, none⟩) (by show w.heap.size < w1.heap.size; omega)).trans x4_1
  have zx_2 : w.heap.size < w2.heap.size := Nat.lt_of_lt_of_le zx_1 b2.size
  clear hb b2 d1 k1 x0_1 x1_1 x2_1 x3_1 x4_1 zx_1
  clear x0_2 x1_2 x2_2 x3_2 x4_2 zx_2
  go_wp2_with fail
  refine (HG.out _ (HT.out.below (by (repeat' (first | with_reducible exact d2 | refine Below.setCell ?_ (by first | omega | (simp; done) | (simp; omega)) _ | refine Below.alloc ?_ (by first | omega | (simp; done) | (simp; omega)) _))))).mono ?_
  rintro e w3 ⟨rfl, hb⟩
  have b3 : Below w2.heap.size w2 w3 := bthen (by (repeat' (first | exact Below.refl _ _ | refine Below.setCell ?_ (by first | omega | (simp; done) | (simp; omega)) _ | refine Below.alloc ?_ (by first | omega | (simp; done) | (simp; omega)) _))) hb
  have d3 : Below w.heap.size w w3 := bthen d2 b3
  have k3 : w.heap.size ≤ w3.heap.size := d3.size
  have f0_3 : w3.cell? ⟨w2.heap.size, 0, none⟩ = some (.int .u8 P) := (hb.cell (p := ⟨w2.heap.size, 0, none⟩) (by first | (simp; done) | (simp; omega))).trans (by simp [go_sem])
  have f1_3 : w3.cell? ⟨w2.heap.size, 1, none⟩ = some (.int .u32 S) := (hb.cell (p := ⟨w2.heap.size, 1, none⟩) (by first | (simp; done) | (simp; omega))).trans (by simp [go_sem])
  have f2_3 : w3.cell? ⟨w2.heap.size, 2, none⟩ = some (.int .u32 E) := (hb.cell (p := ⟨w2.heap.size, 2, none⟩) (by first | (simp; done) | (simp; omega))).trans (by simp [go_sem])
  have f3_3 : w3.cell? ⟨w2.heap.size, 3, none⟩ = some (.int .u16 sp) := (hb.cell (p := ⟨w2.heap.size, 3, none⟩) (by first | (simp; done) | (simp; omega))).trans (by simp [go_sem])
  have f4_3 : w3.cell? ⟨w2.heap.size, 4, none⟩ = some (.int .u16 dp) := (hb.cell (p := ⟨w2.heap.size, 4, none⟩) (by first | (simp; done) | (simp; omega))).trans (by simp [go_sem])
  have f5_3 : w3.cell? ⟨w2.heap.size, 5, none⟩ = some (.int .u8 q0) := (hb.cell (p := ⟨w2.heap.size, 5, none⟩) (by first | (simp; done) | (simp; omega))).trans (by simp [go_sem])
  have zf_3 : w2.heap.size < w3.heap.size := by have := hb.size; simp at this; omega
  clear hb b3 d2 k2
  go_wp2_with (first | (refine wpList_store_wide 29 (.tmp 12) (.tmp 39) rfl rfl w3.heap.size 0 (gF c1 5 ty P c1 c2 c3 c4 kv by') rfl rfl w.heap.size w (hi_gF c1 5 ty P c1 c2 c3 c4 kv by') (ho_gF c1 5 ty P c1 c2 c3 c4 kv by') ?_ (by omega) ?_ ?_; (· (repeat' (first | with_reducible exact d3 | refine Below.setCell ?_ (by first | omega | (simp; done) | (simp; omega)) _ | refine Below.alloc ?_ (by first | omega | (simp; done) | (simp; omega)) _))); (· (repeat (first | (refine there_new _ _ _ _ _ ?_ rfl; first | rfl | (simp; done)) | refine World.there_alloc ?_ _))); intro V d10 hzV R_10 kV tV hcV; have f0_10 : V.cell? ⟨w2.heap.size, 0, none⟩ = some (.int .u8 P) := (hcV w2.heap.size 0 (by omega)).trans (by simp [go_sem, f0_3, zf_3]); have f1_10 : V.cell? ⟨w2.heap.size, 1, none⟩ = some (.int .u32 S) := (hcV w2.heap.size 1 (by omega)).trans (by simp [go_sem, f1_3, zf_3]); have f2_10 : V.cell? ⟨w2.heap.size, 2, none⟩ = some (.int .u32 E) := (hcV w2.heap.size 2 (by omega)).trans (by simp [go_sem, f2_3, zf_3]); have f3_10 : V.cell? ⟨w2.heap.size, 3, none⟩ = some (.int .u16 sp) := (hcV w2.heap.size 3 (by omega)).trans (by simp [go_sem, f3_3, zf_3]); have f4_10 : V.cell? ⟨w2.heap.size, 4, none⟩ = some (.int .u16 dp) := (hcV w2.heap.size 4 (by omega)).trans (by simp [go_sem, f4_3, zf_3]); have f5_10 : V.cell? ⟨w2.heap.size, 5, none⟩ = some (.int .u8 q0) := (hcV w2.heap.size 5 (by omega)).trans (by simp [go_sem, f5_3, zf_3]); have zf_10 : w2.heap.size < V.heap.size := (by rw [hzV]; simp; omega); have zR_10 : w3.heap.size < V.heap.size := (by rw [hzV]; simp); have k10 : w.heap.size ≤ V.heap.size := d10.size; clear hcV hzV kV tV) | (refine wpList_load_wide 29 _ rfl (by rfl) _ _ rfl (gF c1 5 ty P c1 c2 c3 c4 kv by') _ Tryd.underlying29 rfl (hi_gF c1 5 ty P c1 c2 c3 c4 kv by') ?_ ?_; · (repeat (first | with_reducible exact R_10 | refine World.rangeAt_alloc ?_ _ | (refine range_under ((Below.refl _ _).setCell (p := ⟨_, _, none⟩) (Nat.le_refl _) _) ?_ ?_; (· (first | omega | (simp; omega))))))) | (refine wpList_store_wide 29 (.tmp 16) (.tmp 46) rfl rfl (V.heap.size + 1) 0 (gF c1 5 ty P c1 c2 c3 c4 kv by') rfl rfl w.heap.size w (hi_gF c1 5 ty P c1 c2 c3 c4 kv by') (ho_gF c1 5 ty P c1 c2 c3 c4 kv by') ?_ (by omega) ?_ ?_; (· (repeat' (first | with_reducible exact d10 | refine Below.setCell ?_ (by first | omega | (simp; done) | (simp; omega)) _ | refine Below.alloc ?_ (by first | omega | (simp; done) | (simp; omega)) _))); (· (repeat (first | (refine there_new _ _ _ _ _ ?_ rfl; first | rfl | (simp; done)) | refine World.there_alloc ?_ _))); intro V2 d12 hz2 R2 kV2 tV2 hcV2; have f0_12 : V2.cell? ⟨w2.heap.size, 0, none⟩ = some (.int .u8 P) := (hcV2 w2.heap.size 0 (by omega)).trans (by simp [go_sem, f0_10, zf_10]); have f1_12 : V2.cell? ⟨w2.heap.size, 1, none⟩ = some (.int .u32 S) := (hcV2 w2.heap.size 1 (by omega)).trans (by simp [go_sem, f1_10, zf_10]); have f2_12 : V2.cell? ⟨w2.heap.size, 2, none⟩ = some (.int .u32 E) := (hcV2 w2.heap.size 2 (by omega)).trans (by simp [go_sem, f2_10, zf_10]); have f3_12 : V2.cell? ⟨w2.heap.size, 3, none⟩ = some (.int .u16 sp) := (hcV2 w2.heap.size 3 (by omega)).trans (by simp [go_sem, f3_10, zf_10]); have f4_12 : V2.cell? ⟨w2.heap.size, 4, none⟩ = some (.int .u16 dp) := (hcV2 w2.heap.size 4 (by omega)).trans (by simp [go_sem, f4_10, zf_10]); have f5_12 : V2.cell? ⟨w2.heap.size, 5, none⟩ = some (.int .u8 q0) := (hcV2 w2.heap.size 5 (by omega)).trans (by simp [go_sem, f5_10, zf_10]); have b0_12 : V2.cell? ⟨V.heap.size, 0, none⟩ = some (.int .u8 P) := (hcV2 V.heap.size 0 (by omega)).trans (by simp [go_sem]); have b1_12 : V2.cell? ⟨V.heap.size, 1, none⟩ = some (.int .u32 S) := (hcV2 V.heap.size 1 (by omega)).trans (by simp [go_sem]); have b2_12 : V2.cell? ⟨V.heap.size, 2, none⟩ = some (.int .u32 E) := (hcV2 V.heap.size 2 (by omega)).trans (by simp [go_sem]); have b3_12 : V2.cell? ⟨V.heap.size, 3, none⟩ = some (.int .u16 sp) := (hcV2 V.heap.size 3 (by omega)).trans (by simp [go_sem]); have b4_12 : V2.cell? ⟨V.heap.size, 4, none⟩ = some (.int .u16 dp) := (hcV2 V.heap.size 4 (by omega)).trans (by simp [go_sem]); have b5_12 : V2.cell? ⟨V.heap.size, 5, none⟩ = some (.int .u8 m2) := (hcV2 V.heap.size 5 (by omega)).trans (by simp [go_sem]); have R_12 := kV2 w3.heap.size 0 (gF c1 5 ty P c1 c2 c3 c4 kv by').toList (by omega) (by (repeat (first | with_reducible exact R_10 | refine World.rangeAt_alloc ?_ _ | (refine range_under ((Below.refl _ _).setCell (p := ⟨_, _, none⟩) (Nat.le_refl _) _) ?_ ?_; (· (first | omega | (simp; omega))))))); have zb_12 : V.heap.size + 1 < V2.heap.size := (by rw [hz2]; simp); have cj := rcell' (j := 5) R2 rfl; have fj := tfree (tV2 (V.heap.size + 1) 0 19 (by (repeat (first | (refine there_new _ _ _ _ _ ?_ rfl; first | rfl | (simp; done)) | refine World.there_alloc ?_ _)))) 5 (by decide); clear hcV2 kV2 tV2 hz2) | (refine wpList_load_wide 29 _ rfl (by rfl) _ _ rfl (gF c1 5 ty P c1 c2 c3 c4 kv by') _ Tryd.underlying29 rfl (hi_gF c1 5 ty P c1 c2 c3 c4 kv by') ?_ ?_; · (repeat (first | with_reducible exact R_12 | refine World.rangeAt_alloc ?_ _ | (refine range_under ((Below.refl _ _).setCell (p := ⟨_, _, none⟩) (Nat.le_refl _) _) ?_ ?_; (· (first | omega | (simp; omega))))))))
  have u13 : Below (V.heap.size + 1) V2 (V2.setCell ⟨V.heap.size + 1, 5, none⟩ (.int .u8 m6)) := (Below.refl _ _).setCell (p := ⟨V.heap.size + 1, 5, none⟩) (Nat.le_refl _) _
  have d13 : Below w.heap.size w (V2.setCell ⟨V.heap.size + 1, 5, none⟩ (.int .u8 m6)) := d12.setCell (p := ⟨V.heap.size + 1, 5, none⟩) (by show w.heap.size ≤ V.heap.size + 1; omega) _
  have N_13 : (V2.setCell ⟨V.heap.size + 1, 5, none⟩ (.int .u8 m6)).rangeAt (V.heap.size + 1) 0 (gF c1 m6 ty P c1 c2 c3 c4 kv by').toList := range_put R2 5 (.int .u8 m6) fj
  have s13 := size_setC V2 ⟨V.heap.size + 1, 5, none⟩ (.int .u8 m6)
  generalize V2.setCell ⟨V.heap.size + 1, 5, none⟩ (.int .u8 m6) = X at *
  have R_13 := range_under u13 (by omega) R_12
  have k13 : w.heap.size ≤ X.heap.size := d13.size
  have zR_13 : w3.heap.size < X.heap.size := by omega
  have zN_13 : V.heap.size + 1 < X.heap.size := by omega
  have zf_13 : w2.heap.size < X.heap.size := by omega
  have zb_13 : V.heap.size < X.heap.size := by omega
  have f0_13 := cell_under u13 (by omega) f0_12
  have f1_13 := cell_under u13 (by omega) f1_12
  have f2_13 := cell_under u13 (by omega) f2_12
  have f3_13 := cell_under u13 (by omega) f3_12
  have f4_13 := cell_under u13 (by omega) f4_12
  have f5_13 := cell_under u13 (by omega) f5_12
  have b0_13 := cell_under u13 (by omega) b0_12
  have b1_13 := cell_under u13 (by omega) b1_12
  have b2_13 := cell_under u13 (by omega) b2_12
  have b3_13 := cell_under u13 (by omega) b3_12
  have b4_13 := cell_under u13 (by omega) b4_12
  have b5_13 := cell_under u13 (by omega) b5_12
  obtain ⟨n0, hn0⟩ : ∃ n, w2.heap.size = n := ⟨_, rfl⟩
  obtain ⟨n1, hn1⟩ : ∃ n, w3.heap.size = n := ⟨_, rfl⟩
  obtain ⟨n2, hn2⟩ : ∃ n, V.heap.size = n := ⟨_, rfl⟩
  rw [hn0, hn1, hn2]
  rw [hn0] at f0_13 f1_13 f2_13 f3_13 f4_13 f5_13 zf_13
  rw [hn1] at R_13 zR_13
  rw [hn2] at N_13 zN_13 zb_13 b0_13 b1_13 b2_13 b3_13 b4_13 b5_13
  clear d12 d10 d3 k3 k10 R2 cj fj u13 s13 R_12 R_10 zf_10 zR_10 zb_12 zf_3 hn0 hn1 hn2 f0_3  f0_10  f0_12  f1_3  f1_10  f1_12  f2_3  f2_10  f2_12  f3_3  f3_10  f3_12  f4_3  f4_10  f4_12  f5_3  f5_10  f5_12 b0_12 b1_12 b2_12 b3_12 b4_12 b5_12
  go_wp2_with (refine wpList_load_wide 29 _ rfl (by rfl) _ _ rfl (gF c1 5 ty P c1 c2 c3 c4 kv by') _ Tryd.underlying29 rfl (hi_gF c1 5 ty P c1 c2 c3 c4 kv by') ?_ ?_; · (repeat (first | with_reducible exact R_13 | refine World.rangeAt_alloc ?_ _)))
  refine (H5.out _ (HT.out.below (by (repeat' (first | with_reducible exact d13 | refine Below.setCell ?_ (by first | omega | (simp; done) | (simp; omega)) _ | refine Below.alloc ?_ (by first | omega | (simp; done) | (simp; omega)) _))))).mono ?_
  rintro e w14 ⟨rfl, hb⟩
  have b14 : Below X.heap.size X w14 := bthen (by (repeat' (first | exact Below.refl _ _ | refine Below.setCell ?_ (by first | omega | (simp; done) | (simp; omega)) _ | refine Below.alloc ?_ (by first | omega | (simp; done) | (simp; omega)) _))) hb
  have d14 : Below w.heap.size w w14 := bthen d13 b14
  have k14 : w.heap.size ≤ w14.heap.size := d14.size
  have R_14 : w14.rangeAt (n1) 0 ((gF c1 5 ty P c1 c2 c3 c4 kv by')).toList := range_below b14 (by omega) R_13
  have zR_14 : n1 < w14.heap.size := Nat.lt_of_lt_of_le zR_13 b14.size
  have N_14 : w14.rangeAt (n2 + 1) 0 ((gF c1 m6 ty P c1 c2 c3 c4 kv by')).toList := range_below b14 (by omega) N_13
  have zN_14 : n2 + 1 < w14.heap.size := Nat.lt_of_lt_of_le zN_13 b14.size
  have f0_14 : w14.cell? ⟨n0, 0, none⟩ = some (.int .u8 P) := (b14.cell (p := ⟨n0, 0, none⟩) (by show n0 < X.heap.size; omega)).trans f0_13
  have f1_14 : w14.cell? ⟨n0, 1, none⟩ = some (.int .u32 S) := (b14.cell (p := ⟨n0, 1, none⟩) (by show n0 < X.heap.size; omega)).trans f1_13
  have f2_14 : w14.cell? ⟨n0, 2, none⟩ = some (.int .u32 E) := (b14.cell (p := ⟨n0, 2, none⟩) (by show n0 < X.heap.size; omega)).trans f2_13
  have f3_14 : w14.cell? ⟨n0, 3, none⟩ = some (.int .u16 sp) := (b14.cell (p := ⟨n0, 3, none⟩) (by show n0 < X.heap.size; omega)).trans f3_13
  have f4_14 : w14.cell? ⟨n0, 4, none⟩ = some (.int .u16 dp) := (b14.cell (p := ⟨n0, 4, none⟩) (by show n0 < X.heap.size; omega)).trans f4_13
  have f5_14 : w14.cell? ⟨n0, 5, none⟩ = some (.int .u8 q0) := (b14.cell (p := ⟨n0, 5, none⟩) (by show n0 < X.heap.size; omega)).trans f5_13
  have zf_14 : n0 < w14.heap.size := Nat.lt_of_lt_of_le zf_13 b14.size
  have b0_14 : w14.cell? ⟨n2, 0, none⟩ = some (.int .u8 P) := (b14.cell (p := ⟨n2, 0, none⟩) (by show n2 < X.heap.size; omega)).trans b0_13
  have b1_14 : w14.cell? ⟨n2, 1, none⟩ = some (.int .u32 S) := (b14.cell (p := ⟨n2, 1, none⟩) (by show n2 < X.heap.size; omega)).trans b1_13
  have b2_14 : w14.cell? ⟨n2, 2, none⟩ = some (.int .u32 E) := (b14.cell (p := ⟨n2, 2, none⟩) (by show n2 < X.heap.size; omega)).trans b2_13
  have b3_14 : w14.cell? ⟨n2, 3, none⟩ = some (.int .u16 sp) := (b14.cell (p := ⟨n2, 3, none⟩) (by show n2 < X.heap.size; omega)).trans b3_13
  have b4_14 : w14.cell? ⟨n2, 4, none⟩ = some (.int .u16 dp) := (b14.cell (p := ⟨n2, 4, none⟩) (by show n2 < X.heap.size; omega)).trans b4_13
  have b5_14 : w14.cell? ⟨n2, 5, none⟩ = some (.int .u8 m2) := (b14.cell (p := ⟨n2, 5, none⟩) (by show n2 < X.heap.size; omega)).trans b5_13
  have zb_14 : n2 < w14.heap.size := Nat.lt_of_lt_of_le zb_13 b14.size
  clear hb b14 d13 k13 R_13 zR_13 N_13 zN_13 f0_13 f1_13 f2_13 f3_13 f4_13 f5_13 zf_13 b0_13 b1_13 b2_13 b3_13 b4_13 b5_13 zb_13
  go_wp2_with (refine wpList_load_wide 29 _ rfl (by rfl) _ _ rfl (gF c1 5 ty P c1 c2 c3 c4 kv by') _ Tryd.underlying29 rfl (hi_gF c1 5 ty P c1 c2 c3 c4 kv by') ?_ ?_; · (repeat (first | with_reducible exact R_14 | refine World.rangeAt_alloc ?_ _)))
  refine (H6.out _ (HT.out.below (by (repeat' (first | with_reducible exact d14 | refine Below.setCell ?_ (by first | omega | (simp; done) | (simp; omega)) _ | refine Below.alloc ?_ (by first | omega | (simp; done) | (simp; omega)) _))))).mono ?_
  rintro e w15 ⟨rfl, hb⟩
  have b15 : Below w14.heap.size w14 w15 := bthen (by (repeat' (first | exact Below.refl _ _ | refine Below.setCell ?_ (by first | omega | (simp; done) | (simp; omega)) _ | refine Below.alloc ?_ (by first | omega | (simp; done) | (simp; omega)) _))) hb
  have d15 : Below w.heap.size w w15 := bthen d14 b15
  have k15 : w.heap.size ≤ w15.heap.size := d15.size
  have R_15 : w15.rangeAt (n1) 0 ((gF c1 5 ty P c1 c2 c3 c4 kv by')).toList := range_below b15 (by omega) R_14
  have zR_15 : n1 < w15.heap.size := Nat.lt_of_lt_of_le zR_14 b15.size
  have N_15 : w15.rangeAt (n2 + 1) 0 ((gF c1 m6 ty P c1 c2 c3 c4 kv by')).toList := range_below b15 (by omega) N_14
  have zN_15 : n2 + 1 < w15.heap.size := Nat.lt_of_lt_of_le zN_14 b15.size
  have f0_15 : w15.cell? ⟨n0, 0, none⟩ = some (.int .u8 P) := (b15.cell (p := ⟨n0, 0, none⟩) (by show n0 < w14.heap.size; omega)).trans f0_14
  have f1_15 : w15.cell? ⟨n0, 1, none⟩ = some (.int .u32 S) := (b15.cell (p := ⟨n0, 1, none⟩) (by show n0 < w14.heap.size; omega)).trans f1_14
  have f2_15 : w15.cell? ⟨n0, 2, none⟩ = some (.int .u32 E) := (b15.cell (p := ⟨n0, 2, none⟩) (by show n0 < w14.heap.size; omega)).trans f2_14
  have f3_15 : w15.cell? ⟨n0, 3, none⟩ = some (.int .u16 sp) := (b15.cell (p := ⟨n0, 3, none⟩) (by show n0 < w14.heap.size; omega)).trans f3_14
  have f4_15 : w15.cell? ⟨n0, 4, none⟩ = some (.int .u16 dp) := (b15.cell (p := ⟨n0, 4, none⟩) (by show n0 < w14.heap.size; omega)).trans f4_14
  have f5_15 : w15.cell? ⟨n0, 5, none⟩ = some (.int .u8 q0) := (b15.cell (p := ⟨n0, 5, none⟩) (by show n0 < w14.heap.size; omega)).trans f5_14
  have zf_15 : n0 < w15.heap.size := Nat.lt_of_lt_of_le zf_14 b15.size
  have b0_15 : w15.cell? ⟨n2, 0, none⟩ = some (.int .u8 P) := (b15.cell (p := ⟨n2, 0, none⟩) (by show n2 < w14.heap.size; omega)).trans b0_14
  have b1_15 : w15.cell? ⟨n2, 1, none⟩ = some (.int .u32 S) := (b15.cell (p := ⟨n2, 1, none⟩) (by show n2 < w14.heap.size; omega)).trans b1_14
  have b2_15 : w15.cell? ⟨n2, 2, none⟩ = some (.int .u32 E) := (b15.cell (p := ⟨n2, 2, none⟩) (by show n2 < w14.heap.size; omega)).trans b2_14
  have b3_15 : w15.cell? ⟨n2, 3, none⟩ = some (.int .u16 sp) := (b15.cell (p := ⟨n2, 3, none⟩) (by show n2 < w14.heap.size; omega)).trans b3_14
  have b4_15 : w15.cell? ⟨n2, 4, none⟩ = some (.int .u16 dp) := (b15.cell (p := ⟨n2, 4, none⟩) (by show n2 < w14.heap.size; omega)).trans b4_14
  have b5_15 : w15.cell? ⟨n2, 5, none⟩ = some (.int .u8 m2) := (b15.cell (p := ⟨n2, 5, none⟩) (by show n2 < w14.heap.size; omega)).trans b5_14
  have zb_15 : n2 < w15.heap.size := Nat.lt_of_lt_of_le zb_14 b15.size
  clear hb b15 d14 k14 R_14 zR_14 N_14 zN_14 f0_14 f1_14 f2_14 f3_14 f4_14 f5_14 zf_14 b0_14 b1_14 b2_14 b3_14 b4_14 b5_14 zb_14
  go_wp2_with (refine wpList_load_wide 29 _ rfl (by rfl) _ _ rfl (gF c1 m6 ty P c1 c2 c3 c4 kv by') _ Tryd.underlying29 rfl (hi_gF c1 m6 ty P c1 c2 c3 c4 kv by') ?_ ?_; · (repeat (first | with_reducible exact N_15 | refine World.rangeAt_alloc ?_ _)))
  refine (H7.out _ (HT.out.below (by (repeat' (first | with_reducible exact d15 | refine Below.setCell ?_ (by first | omega | (simp; done) | (simp; omega)) _ | refine Below.alloc ?_ (by first | omega | (simp; done) | (simp; omega)) _))))).mono ?_
  rintro e w16 ⟨rfl, hb⟩
  have b16 : Below w15.heap.size w15 w16 := bthen (by (repeat' (first | exact Below.refl _ _ | refine Below.setCell ?_ (by first | omega | (simp; done) | (simp; omega)) _ | refine Below.alloc ?_ (by first | omega | (simp; done) | (simp; omega)) _))) hb
  have d16 : Below w.heap.size w w16 := bthen d15 b16
  have k16 : w.heap.size ≤ w16.heap.size := d16.size
  have R_16 : w16.rangeAt (n1) 0 ((gF c1 5 ty P c1 c2 c3 c4 kv by')).toList := range_below b16 (by omega) R_15
  have zR_16 : n1 < w16.heap.size := Nat.lt_of_lt_of_le zR_15 b16.size
  have N_16 : w16.rangeAt (n2 + 1) 0 ((gF c1 m6 ty P c1 c2 c3 c4 kv by')).toList := range_below b16 (by omega) N_15
  have zN_16 : n2 + 1 < w16.heap.size := Nat.lt_of_lt_of_le zN_15 b16.size
  have f0_16 : w16.cell? ⟨n0, 0, none⟩ = some (.int .u8 P) := (b16.cell (p := ⟨n0, 0, none⟩) (by show n0 < w15.heap.size; omega)).trans f0_15
  have f1_16 : w16.cell? ⟨n0, 1, none⟩ = some (.int .u32 S) := (b16.cell (p := ⟨n0, 1, none⟩) (by show n0 < w15.heap.size; omega)).trans f1_15
  have f2_16 : w16.cell? ⟨n0, 2, none⟩ = some (.int .u32 E) := (b16.cell (p := ⟨n0, 2, none⟩) (by show n0 < w15.heap.size; omega)).trans f2_15
  have f3_16 : w16.cell? ⟨n0, 3, none⟩ = some (.int .u16 sp) := (b16.cell (p := ⟨n0, 3, none⟩) (by show n0 < w15.heap.size; omega)).trans f3_15
  have f4_16 : w16.cell? ⟨n0, 4, none⟩ = some (.int .u16 dp) := (b16.cell (p := ⟨n0, 4, none⟩) (by show n0 < w15.heap.size; omega)).trans f4_15
  have f5_16 : w16.cell? ⟨n0, 5, none⟩ = some (.int .u8 q0) := (b16.cell (p := ⟨n0, 5, none⟩) (by show n0 < w15.heap.size; omega)).trans f5_15
  have zf_16 : n0 < w16.heap.size := Nat.lt_of_lt_of_le zf_15 b16.size
  have b0_16 : w16.cell? ⟨n2, 0, none⟩ = some (.int .u8 P) := (b16.cell (p := ⟨n2, 0, none⟩) (by show n2 < w15.heap.size; omega)).trans b0_15
  have b1_16 : w16.cell? ⟨n2, 1, none⟩ = some (.int .u32 S) := (b16.cell (p := ⟨n2, 1, none⟩) (by show n2 < w15.heap.size; omega)).trans b1_15
  have b2_16 : w16.cell? ⟨n2, 2, none⟩ = some (.int .u32 E) := (b16.cell (p := ⟨n2, 2, none⟩) (by show n2 < w15.heap.size; omega)).trans b2_15
  have b3_16 : w16.cell? ⟨n2, 3, none⟩ = some (.int .u16 sp) := (b16.cell (p := ⟨n2, 3, none⟩) (by show n2 < w15.heap.size; omega)).trans b3_15
  have b4_16 : w16.cell? ⟨n2, 4, none⟩ = some (.int .u16 dp) := (b16.cell (p := ⟨n2, 4, none⟩) (by show n2 < w15.heap.size; omega)).trans b4_15
  have b5_16 : w16.cell? ⟨n2, 5, none⟩ = some (.int .u8 m2) := (b16.cell (p := ⟨n2, 5, none⟩) (by show n2 < w15.heap.size; omega)).trans b5_15
  have zb_16 : n2 < w16.heap.size := Nat.lt_of_lt_of_le zb_15 b16.size
  clear hb b16 d15 k15 R_15 zR_15 N_15 zN_15 f0_15 f1_15 f2_15 f3_15 f4_15 f5_15 zf_15 b0_15 b1_15 b2_15 b3_15 b4_15 b5_15 zb_15
  clear N_16 zN_16
  go_wp2_with (first | (refine wpList_load_wide 29 _ rfl (by rfl) _ _ rfl (gF c1 5 ty P c1 c2 c3 c4 kv by') _ Tryd.underlying29 rfl (hi_gF c1 5 ty P c1 c2 c3 c4 kv by') ?_ ?_; · (repeat (first | with_reducible exact R_16 | refine World.rangeAt_alloc ?_ _))) | (refine wpList_buildWide rfl 47 27 2 6 #[(0, .tmp 73), (1, .tmp 74)] rfl [[.int .u8 P, .int .u32 S, .int .u32 E, .int .u16 sp, .int .u16 dp, .int .u8 m2], [.int .u8 P, .int .u32 S, .int .u32 E, .int .u16 sp, .int .u16 dp, .int .u8 q0]] w16.heap.size rfl (some 75) rfl ie zz Tryd.underlying47 HIE.out.1 HIE.out.2.1 HIE.out.2.2 (by decide) (by decide) rfl (by decide) ?_ ?_ ?_; (· (simp; (repeat' (first | rfl | apply And.intro)))); (· (intro l hl; simp at hl; rcases hl with rfl | rfl <;> rfl))))
  refine (H8.out _ (some ⟨w16.heap.size, 0, none⟩) (HT.out.below (by (repeat' (first | with_reducible exact d16 | refine Below.setCell ?_ (by first | omega | (simp; done) | (simp; omega)) _ | refine Below.alloc ?_ (by first | omega | (simp; done) | (simp; omega)) _)))) (rd_new w16 [[.int .u8 P, .int .u32 S, .int .u32 E, .int .u16 sp, .int .u16 dp, .int .u8 m2], [.int .u8 P, .int .u32 S, .int .u32 E, .int .u16 sp, .int .u16 dp, .int .u8 q0]] 27 6 (by intro l hl; simp at hl; rcases hl with rfl | rfl <;> rfl))).mono ?_
  rintro e w17 ⟨rfl, hb⟩
  have b17 : Below w16.heap.size w16 w17 := bthen (by (repeat' (first | exact Below.refl _ _ | refine Below.setCell ?_ (by first | omega | (simp; done) | (simp; omega)) _ | refine Below.alloc ?_ (by first | omega | (simp; done) | (simp; omega)) _))) hb
  have d17 : Below w.heap.size w w17 := bthen d16 b17
  have k17 : w.heap.size ≤ w17.heap.size := d17.size
  have R_17 : w17.rangeAt (n1) 0 ((gF c1 5 ty P c1 c2 c3 c4 kv by')).toList := range_below b17 (by omega) R_16
  have zR_17 : n1 < w17.heap.size := Nat.lt_of_lt_of_le zR_16 b17.size
  have f0_17 : w17.cell? ⟨n0, 0, none⟩ = some (.int .u8 P) := (b17.cell (p := ⟨n0, 0, none⟩) (by show n0 < w16.heap.size; omega)).trans f0_16
  have f1_17 : w17.cell? ⟨n0, 1, none⟩ = some (.int .u32 S) := (b17.cell (p := ⟨n0, 1, none⟩) (by show n0 < w16.heap.size; omega)).trans f1_16
  have f2_17 : w17.cell? ⟨n0, 2, none⟩ = some (.int .u32 E) := (b17.cell (p := ⟨n0, 2, none⟩) (by show n0 < w16.heap.size; omega)).trans f2_16
  have f3_17 : w17.cell? ⟨n0, 3, none⟩ = some (.int .u16 sp) := (b17.cell (p := ⟨n0, 3, none⟩) (by show n0 < w16.heap.size; omega)).trans f3_16
  have f4_17 : w17.cell? ⟨n0, 4, none⟩ = some (.int .u16 dp) := (b17.cell (p := ⟨n0, 4, none⟩) (by show n0 < w16.heap.size; omega)).trans f4_16
  have f5_17 : w17.cell? ⟨n0, 5, none⟩ = some (.int .u8 q0) := (b17.cell (p := ⟨n0, 5, none⟩) (by show n0 < w16.heap.size; omega)).trans f5_16
  have zf_17 : n0 < w17.heap.size := Nat.lt_of_lt_of_le zf_16 b17.size
  have b0_17 : w17.cell? ⟨n2, 0, none⟩ = some (.int .u8 P) := (b17.cell (p := ⟨n2, 0, none⟩) (by show n2 < w16.heap.size; omega)).trans b0_16
  have b1_17 : w17.cell? ⟨n2, 1, none⟩ = some (.int .u32 S) := (b17.cell (p := ⟨n2, 1, none⟩) (by show n2 < w16.heap.size; omega)).trans b1_16
  have b2_17 : w17.cell? ⟨n2, 2, none⟩ = some (.int .u32 E) := (b17.cell (p := ⟨n2, 2, none⟩) (by show n2 < w16.heap.size; omega)).trans b2_16
  have b3_17 : w17.cell? ⟨n2, 3, none⟩ = some (.int .u16 sp) := (b17.cell (p := ⟨n2, 3, none⟩) (by show n2 < w16.heap.size; omega)).trans b3_16
  have b4_17 : w17.cell? ⟨n2, 4, none⟩ = some (.int .u16 dp) := (b17.cell (p := ⟨n2, 4, none⟩) (by show n2 < w16.heap.size; omega)).trans b4_16
  have b5_17 : w17.cell? ⟨n2, 5, none⟩ = some (.int .u8 m2) := (b17.cell (p := ⟨n2, 5, none⟩) (by show n2 < w16.heap.size; omega)).trans b5_16
  have zb_17 : n2 < w17.heap.size := Nat.lt_of_lt_of_le zb_16 b17.size
  clear hb b17 d16 k16 R_16 zR_16 f0_16 f1_16 f2_16 f3_16 f4_16 f5_16 zf_16 b0_16 b1_16 b2_16 b3_16 b4_16 b5_16 zb_16
  clear f0_17 f1_17 f2_17 f3_17 f4_17 f5_17 zf_17
  go_wp2_with (first | (refine wpList_load_wide 29 _ rfl (by rfl) _ _ rfl (gF c1 5 ty P c1 c2 c3 c4 kv by') _ Tryd.underlying29 rfl (hi_gF c1 5 ty P c1 c2 c3 c4 kv by') ?_ ?_; · (repeat (first | with_reducible exact R_17 | refine World.rangeAt_alloc ?_ _))) | (refine wpList_buildWide rfl 47 27 2 6 #[(0, .tmp 83), (1, .tmp 84)] rfl [[.int .u8 P, .int .u32 S, .int .u32 E, .int .u16 sp, .int .u16 dp, .int .u8 m2], [.int .u8 P, .int .u32 S, .int .u32 E, .int .u16 sp, .int .u16 dp, .int .u8 m2]] w17.heap.size rfl (some 85) rfl ie zz Tryd.underlying47 HIE.out.1 HIE.out.2.1 HIE.out.2.2 (by decide) (by decide) rfl (by decide) ?_ ?_ ?_; (· (simp; (repeat' (first | rfl | apply And.intro)))); (· (intro l hl; simp at hl; subst hl; rfl))))
  refine (H9.out _ (some ⟨w17.heap.size, 0, none⟩) (HT.out.below (by (repeat' (first | with_reducible exact d17 | refine Below.setCell ?_ (by first | omega | (simp; done) | (simp; omega)) _ | refine Below.alloc ?_ (by first | omega | (simp; done) | (simp; omega)) _)))) (rd_new w17 [[.int .u8 P, .int .u32 S, .int .u32 E, .int .u16 sp, .int .u16 dp, .int .u8 m2], [.int .u8 P, .int .u32 S, .int .u32 E, .int .u16 sp, .int .u16 dp, .int .u8 m2]] 27 6 (by intro l hl; simp at hl; subst hl; rfl))).mono ?_
  rintro e w18 ⟨rfl, hb⟩
  have b18 : Below w17.heap.size w17 w18 := bthen (by (repeat' (first | exact Below.refl _ _ | refine Below.setCell ?_ (by first | omega | (simp; done) | (simp; omega)) _ | refine Below.alloc ?_ (by first | omega | (simp; done) | (simp; omega)) _))) hb
  have d18 : Below w.heap.size w w18 := bthen d17 b18
  have k18 : w.heap.size ≤ w18.heap.size := d18.size
  have R_18 : w18.rangeAt (n1) 0 ((gF c1 5 ty P c1 c2 c3 c4 kv by')).toList := range_below b18 (by omega) R_17
  have zR_18 : n1 < w18.heap.size := Nat.lt_of_lt_of_le zR_17 b18.size
  have b0_18 : w18.cell? ⟨n2, 0, none⟩ = some (.int .u8 P) := (b18.cell (p := ⟨n2, 0, none⟩) (by show n2 < w17.heap.size; omega)).trans b0_17
  have b1_18 : w18.cell? ⟨n2, 1, none⟩ = some (.int .u32 S) := (b18.cell (p := ⟨n2, 1, none⟩) (by show n2 < w17.heap.size; omega)).trans b1_17
  have b2_18 : w18.cell? ⟨n2, 2, none⟩ = some (.int .u32 E) := (b18.cell (p := ⟨n2, 2, none⟩) (by show n2 < w17.heap.size; omega)).trans b2_17
  have b3_18 : w18.cell? ⟨n2, 3, none⟩ = some (.int .u16 sp) := (b18.cell (p := ⟨n2, 3, none⟩) (by show n2 < w17.heap.size; omega)).trans b3_17
  have b4_18 : w18.cell? ⟨n2, 4, none⟩ = some (.int .u16 dp) := (b18.cell (p := ⟨n2, 4, none⟩) (by show n2 < w17.heap.size; omega)).trans b4_17
  have b5_18 : w18.cell? ⟨n2, 5, none⟩ = some (.int .u8 m2) := (b18.cell (p := ⟨n2, 5, none⟩) (by show n2 < w17.heap.size; omega)).trans b5_17
  have zb_18 : n2 < w18.heap.size := Nat.lt_of_lt_of_le zb_17 b18.size
  clear hb b18 d17 k17 R_17 zR_17 b0_17 b1_17 b2_17 b3_17 b4_17 b5_17 zb_17
  have h1 := HQ1.out
  have h2 := HQ1'.out
  go_wp2_with fail
  go_ret
  exact ⟨rfl, d18⟩

set_option maxHeartbeats 2000000 in
theorem relatedWrong_walk (p s d sp dp side dir n by' : Int) (w : World) (hT : Tabs w)
    (hx : (0 ≤ p ∧ p ≤ 255) ∧ (0 ≤ s ∧ s ≤ 4294967295) ∧ (0 ≤ d ∧ d ≤ 4294967295) ∧ (0 ≤ sp ∧ sp ≤ 65535) ∧ (0 ≤ dp ∧ dp ≤ 65535)) (hs : 0 ≤ side ∧ side ≤ 255) (hd : 0 ≤ dir ∧ dir ≤ 255) (hn : 0 ≤ n ∧ n ≤ 255) (hb : 0 ≤ by' ∧ by' ≤ 4294967295) :
    Calls Tryd.prog 10 #[.agg #[.int .u8 p, .int .u32 s, .int .u32 d, .int .u16 sp, .int .u16 dp], .int .u8 side, .int .u8 dir, .int .u8 n, .int .u32 by'] w fun e w' => e = .returned (.bool true) ∧ Below w.heap.size w w' := by
  obtain ⟨h1, h2, h3, h4, h5⟩ := hx
  have hR := fun W => right_any p s d sp dp side W h1 h3 hs
  obtain ⟨hne, hE0, hE1⟩ := rd_ne s d h3
  have hP := rp_range p
  generalize rp p = P at *
  generalize rd s d = E at *
  obtain ⟨q0, hq0⟩ : ∃ q, side % 2 = q := ⟨_, rfl⟩
  rw [hq0] at hR
  have hq0' : 0 ≤ q0 ∧ q0 ≤ 1 := by omega
  obtain ⟨q1, hq1⟩ : ∃ q, dir % 2 = q := ⟨_, rfl⟩
  have hq1' : dir.tmod 2 = q1 := by rw [Int.tmod_eq_emod_of_nonneg hd.1]; exact hq1
  obtain ⟨c1, c2, c3, c4, fr, hk⟩ : ∃ c1 c2 c3 c4 fr : Int, q1 = 0 ∧ s = c1 ∧ E = c2 ∧ sp = c3 ∧ dp = c4 ∧ 1 - q0 = fr ∨ q1 = 1 ∧ E = c1 ∧ s = c2 ∧ dp = c3 ∧ sp = c4 ∧ q0 = fr := by
    have : q1 = 0 ∨ q1 = 1 := by omega
    rcases this with h | h
    · exact ⟨s, E, sp, dp, 1 - q0, .inl ⟨h, rfl, rfl, rfl, rfl, rfl⟩⟩
    · exact ⟨E, s, dp, sp, q0, .inr ⟨h, rfl, rfl, rfl, rfl, rfl⟩⟩
  obtain ⟨ty, ht⟩ : ∃ ty : Int, by' % 3 = 0 ∧ ty = 3 ∨ by' % 3 = 1 ∧ ty = 11 ∨ by' % 3 = 2 ∧ ty = 12 := by
    have : by' % 3 = 0 ∨ by' % 3 = 1 ∨ by' % 3 = 2 := by omega
    rcases this with h | h | h
    · exact ⟨3, .inl ⟨h, rfl⟩⟩
    · exact ⟨11, .inr (.inl ⟨h, rfl⟩)⟩
    · exact ⟨12, .inr (.inr ⟨h, rfl⟩)⟩
  have hty : ty = 3 ∨ ty = 11 ∨ ty = 12 := by omega
  have hqq : q1 = 0 ∨ q1 = 1 := by omega
  obtain ⟨hkok, _, _, _, hkv⟩ := kd_cases hP hqq
  have b1 : 0 ≤ c1 ∧ c1 ≤ 4294967295 := by omega
  have b2 : 0 ≤ c2 ∧ c2 ≤ 4294967295 := by omega
  have b3 : 0 ≤ c3 ∧ c3 ≤ 65535 := by omega
  have b4 : 0 ≤ c4 ∧ c4 ≤ 65535 := by omega
  have hB := bel_of P s E sp dp q0 c1 c2 c3 c4 fr q1 ty hP hne hq0' hty b2 b3 b4 hk
  have hP' : 0 ≤ P ∧ P ≤ 255 := by omega
  have hfr : 0 ≤ fr := by omega
  have hG := fun W hW => quoting_hit P s E sp dp q0 dir by' W hW hP' hq0' hd hb c1 c2 c3 c4 fr q1 ty hq1 hk ht
  rw [hkok] at hG
  have hyes := hB.yes
  clear hB
  generalize kd P q1 = kv at *
  have hty' : 0 ≤ ty ∧ ty ≤ 255 := by omega
  have hF := fa_gF c1 5 ty P c1 c2 c3 c4 kv by' (by decide) hty' hP' hkv b1 b1 b2 b3 b4
  obtain ⟨m2, hm2⟩ : ∃ m : Int, (if n < 2 then 2 else n) = m := ⟨_, rfl⟩
  obtain ⟨m6, hm6⟩ : ∃ m : Int, (if n < 6 then 6 else n) = m := ⟨_, rfl⟩
  have r2 : 2 ≤ m2 ∧ m2 ≤ 255 := by split at hm2 <;> omega
  have r6 : 6 ≤ m6 ∧ m6 ≤ 255 := by split at hm6 <;> omega
  have hN := fa_gF c1 m6 ty P c1 c2 c3 c4 kv by' (by omega) hty' hP' hkv b1 b1 b2 b3 b4
  have q5 : quo P s E sp dp m2 c1 5 ty P c1 c2 c3 c4 kv fr = (0, false) := by
    unfold quo
    rw [decide_eq_false (show ¬ m2 ≤ 1 by omega)]
    simp
  have q6 : quo P s E sp dp q0 c1 5 ty P c1 c2 c3 c4 kv m2 = (0, false) := by
    unfold quo
    rw [decide_eq_false (show ¬ m2 ≤ 1 by omega)]
    simp
  have q7 : quo P s E sp dp q0 c1 m6 ty P c1 c2 c3 c4 kv fr = (0, false) := quo_cannot (by
    have : (m6 == 5) = false := by simp; omega
    unfold can
    rw [this]
    simp)
  exact wrong_core p s d sp dp side dir n by' P s E q0 c1 c2 c3 c4 ty kv fr q1 m2 m6 w hT hR hG hm2 hm6
    (fun W hW => quotes_is (gF c1 5 ty P c1 c2 c3 c4 kv by') P s E sp dp m2 c1 5 ty P c1 c2 c3 c4 kv fr 0 false W hF hW hP' (by omega) hfr q5)
    (fun W hW => quotes_is (gF c1 5 ty P c1 c2 c3 c4 kv by') P s E sp dp q0 c1 5 ty P c1 c2 c3 c4 kv m2 0 false W hF hW hP' hq0'.1 (by omega) q6)
    (fun W hW => quotes_is (gF c1 m6 ty P c1 c2 c3 c4 kv by') P s E sp dp q0 c1 m6 ty P c1 c2 c3 c4 kv fr 0 false W hN hW hP' hq0'.1 hfr q7)
    (fun W A hW hRd => by
      have := find_any (gF c1 5 ty P c1 c2 c3 c4 kv by') [⟨P, s, E, sp, dp, m2⟩, ⟨P, s, E, sp, dp, q0⟩] A 2 c1 5 ty P c1 c2 c3 c4 kv fr W hF hW hfr hRd (by show 2 ≤ 4611686018427387904; decide) (by intro x hx; simp at hx; rcases hx with rfl | rfl; exact ⟨hP', by show 0 ≤ m2; omega⟩; exact ⟨hP', hq0'.1⟩)
      rw [fst1_only _ _ 0 1 ⟨P, s, E, sp, dp, q0⟩ q1 rfl hyes (fun i y hi hy => by
        match i, hi, hy with
        | 0, _, hy => simp at hy; subst hy; exact congrArg Prod.snd q5
        | i + 2, _, hy => simp at hy)] at this
      exact this)
    (fun W A hW hRd => by
      have := find_any (gF c1 5 ty P c1 c2 c3 c4 kv by') [⟨P, s, E, sp, dp, m2⟩, ⟨P, s, E, sp, dp, m2⟩] A 2 c1 5 ty P c1 c2 c3 c4 kv fr W hF hW hfr hRd (by show 2 ≤ 4611686018427387904; decide) (by intro x hx; simp at hx; subst hx; exact ⟨hP', by show 0 ≤ m2; omega⟩)
      rw [fst1_none _ _ 0 (fun y hy => by simp at hy; subst hy; exact congrArg Prod.snd q5)] at this
      exact this)
    hq1 hq1'

end Go.Proofs.YtapeminpgojeaaaDoor
