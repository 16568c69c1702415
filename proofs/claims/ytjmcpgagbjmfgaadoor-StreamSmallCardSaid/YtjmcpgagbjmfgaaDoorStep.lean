/-
  The contract of stream.Step.
-/
import Derived.Test.YtjmcpgagbjmfgaaDoorRight
namespace Go.Proofs.YtjmcpgagbjmfgaaDoor
open Go.RowKit
set_option linter.unusedVariables false
set_option linter.unusedSimpArgs false

/-- Is a packet allowed in a flow? What becomes of the flow? -/
def alw (k s t d kind typ : Int) : Bool := rt k s t && (decide (d ≤ 1) && (if k = 2 then kind == 2 else allowsQ t d kind typ))
def stF (k s t d kind typ : Int) : Int × Int × Int := if alw k s t d kind typ then (k, if d = 1 then 2 else s, t) else (0, 0, 0)

set_option maxHeartbeats 1000000 in
theorem step_U_wrong (F : Array Value) (s t d kind typ : Int) (w : World) (h : Hid (Fa F kind typ)) (hA : Hid (Ans w)) (hk : (0 : Int) ≤ 2 ∧ (2 : Int) ≤ 255) (ht : 0 ≤ t ∧ t ≤ 255) (hr : Hid (rt 2 s t = false)) :
    Calls Tryd.prog 14 #[fl 2 s t, .int .u8 d, .agg F] w fun e w' => e = .returned (.tuple #[fl 0 0 0, .bool false]) ∧ Below w.heap.size w w' := by
  have Hi := Lib.hid h.out.hi
  have f1 := h.out.ckind
  have f2 := h.out.ctype
  unfold fl
  go_enter Tryd.func14, Tryd.ntmps14
  go_wp2_with fail
  refine (kindsU_any _).mono ?_
  rintro e w' ⟨rfl, rfl⟩
  go_wp2_with fail
  refine (right_any 2 s t _ hk ht (hA.out.below (by (repeat' (first | exact Below.refl _ _ | refine Below.alloc ?_ (by first | omega | (simp; done) | (simp; omega)) _))))).mono ?_
  rintro e w1 ⟨he, hb⟩
  rw [hr.out] at he
  subst he
  obtain ⟨hc, hf⟩ := bcell hb
  have hb0 : Below w.heap.size w w1 := bthen (by (repeat' (first | exact Below.refl _ _ | refine Below.alloc ?_ (by first | omega | (simp; done) | (simp; omega)) _))) hb
  have hR : w1.rangeAt (w.heap.size + 1) 0 F.toList := range_below hb (by first | (simp; done) | (simp; omega)) (by (repeat (first | exact range_new' _ _ _ _ (by simp) | refine World.rangeAt_alloc ?_ _)))
  have hz : w.heap.size + 1 + 1 + 1 + 1 < w1.heap.size := by have := hb.size; simp at this; omega
  have hz0 : w.heap.size < w1.heap.size := by omega
  have hz1 : w.heap.size + 1 < w1.heap.size := by omega
  have x1 : w1.cell? ⟨w.heap.size, 1, none⟩ = some (.int .u8 s) := by rw [hc _ _ (by first | (simp; done) | (simp; omega))]; simp [go_sem]
  have hz2 : w.heap.size + 1 + 1 < w1.heap.size := by omega
  go_wp2_with fail
  refine bodyPost_ret (v := .tuple #[fl 0 0 0, .bool false]) ?_ rfl ⟨rfl, by (repeat' (first | with_reducible exact hb0 | exact Below.refl _ _ | refine Below.setCell ?_ (by first | omega | (simp; done) | (simp; omega)) _ | refine Below.alloc ?_ (by first | omega | (simp; done) | (simp; omega)) _))⟩
  simp [results, Tryd.results14, go_sem, fl, hc, hz0, hz1, hz2, size_setC]

set_option maxHeartbeats 1000000 in
theorem step_Q_wrong (F : Array Value) (s t d kind typ : Int) (w : World) (h : Hid (Fa F kind typ)) (hA : Hid (Ans w)) (hk : (0 : Int) ≤ 3 ∧ (3 : Int) ≤ 255) (ht : 0 ≤ t ∧ t ≤ 255) (hr : Hid (rt 3 s t = false)) :
    Calls Tryd.prog 14 #[fl 3 s t, .int .u8 d, .agg F] w fun e w' => e = .returned (.tuple #[fl 0 0 0, .bool false]) ∧ Below w.heap.size w w' := by
  have Hi := Lib.hid h.out.hi
  have f1 := h.out.ckind
  have f2 := h.out.ctype
  unfold fl
  go_enter Tryd.func14, Tryd.ntmps14
  go_wp2_with fail
  refine (kindsQ_any _).mono ?_
  rintro e w' ⟨rfl, rfl⟩
  go_wp2_with fail
  refine (right_any 3 s t _ hk ht (hA.out.below (by (repeat' (first | exact Below.refl _ _ | refine Below.alloc ?_ (by first | omega | (simp; done) | (simp; omega)) _))))).mono ?_
  rintro e w1 ⟨he, hb⟩
  rw [hr.out] at he
  subst he
  obtain ⟨hc, hf⟩ := bcell hb
  have hb0 : Below w.heap.size w w1 := bthen (by (repeat' (first | exact Below.refl _ _ | refine Below.alloc ?_ (by first | omega | (simp; done) | (simp; omega)) _))) hb
  have hR : w1.rangeAt (w.heap.size + 1) 0 F.toList := range_below hb (by first | (simp; done) | (simp; omega)) (by (repeat (first | exact range_new' _ _ _ _ (by simp) | refine World.rangeAt_alloc ?_ _)))
  have hz : w.heap.size + 1 + 1 + 1 + 1 < w1.heap.size := by have := hb.size; simp at this; omega
  have hz0 : w.heap.size < w1.heap.size := by omega
  have hz1 : w.heap.size + 1 < w1.heap.size := by omega
  have x1 : w1.cell? ⟨w.heap.size, 1, none⟩ = some (.int .u8 s) := by rw [hc _ _ (by first | (simp; done) | (simp; omega))]; simp [go_sem]
  have hz2 : w.heap.size + 1 + 1 < w1.heap.size := by omega
  go_wp2_with fail
  refine bodyPost_ret (v := .tuple #[fl 0 0 0, .bool false]) ?_ rfl ⟨rfl, by (repeat' (first | with_reducible exact hb0 | exact Below.refl _ _ | refine Below.setCell ?_ (by first | omega | (simp; done) | (simp; omega)) _ | refine Below.alloc ?_ (by first | omega | (simp; done) | (simp; omega)) _))⟩
  simp [results, Tryd.results14, go_sem, fl, hc, hz0, hz1, hz2, size_setC]

set_option maxHeartbeats 1000000 in
theorem step_F_wrong (F : Array Value) (k s t d kind typ : Int) (w : World) (h : Hid (Fa F kind typ)) (hA : Hid (Ans w)) (hk : (0 : Int) ≤ k ∧ (k : Int) ≤ 255) (ht : 0 ≤ t ∧ t ≤ 255) (h2 : (k == 2) = false) (h3 : (k == 3) = false) (hr : Hid (rt k s t = false)) :
    Calls Tryd.prog 14 #[fl k s t, .int .u8 d, .agg F] w fun e w' => e = .returned (.tuple #[fl 0 0 0, .bool false]) ∧ Below w.heap.size w w' := by
  have Hi := Lib.hid h.out.hi
  have f1 := h.out.ckind
  have f2 := h.out.ctype
  unfold fl
  go_enter Tryd.func14, Tryd.ntmps14
  go_wp2_with fail
  refine (kindsF_any _ _ h2 h3).mono ?_
  rintro e w' ⟨rfl, rfl⟩
  go_wp2_with fail
  refine (right_any k s t _ hk ht (hA.out.below (by (repeat' (first | exact Below.refl _ _ | refine Below.alloc ?_ (by first | omega | (simp; done) | (simp; omega)) _))))).mono ?_
  rintro e w1 ⟨he, hb⟩
  rw [hr.out] at he
  subst he
  obtain ⟨hc, hf⟩ := bcell hb
  have hb0 : Below w.heap.size w w1 := bthen (by (repeat' (first | exact Below.refl _ _ | refine Below.alloc ?_ (by first | omega | (simp; done) | (simp; omega)) _))) hb
  have hR : w1.rangeAt (w.heap.size + 1) 0 F.toList := range_below hb (by first | (simp; done) | (simp; omega)) (by (repeat (first | exact range_new' _ _ _ _ (by simp) | refine World.rangeAt_alloc ?_ _)))
  have hz : w.heap.size + 1 + 1 + 1 + 1 < w1.heap.size := by have := hb.size; simp at this; omega
  have hz0 : w.heap.size < w1.heap.size := by omega
  have hz1 : w.heap.size + 1 < w1.heap.size := by omega
  have x1 : w1.cell? ⟨w.heap.size, 1, none⟩ = some (.int .u8 s) := by rw [hc _ _ (by first | (simp; done) | (simp; omega))]; simp [go_sem]
  have hz2 : w.heap.size + 1 + 1 < w1.heap.size := by omega
  go_wp2_with fail
  refine bodyPost_ret (v := .tuple #[fl 0 0 0, .bool false]) ?_ rfl ⟨rfl, by (repeat' (first | with_reducible exact hb0 | exact Below.refl _ _ | refine Below.setCell ?_ (by first | omega | (simp; done) | (simp; omega)) _ | refine Below.alloc ?_ (by first | omega | (simp; done) | (simp; omega)) _))⟩
  simp [results, Tryd.results14, go_sem, fl, hc, hz0, hz1, hz2, size_setC]

set_option maxHeartbeats 1000000 in
theorem step_U_dir (F : Array Value) (s t d kind typ : Int) (w : World) (h : Hid (Fa F kind typ)) (hA : Hid (Ans w)) (hk : (0 : Int) ≤ 2 ∧ (2 : Int) ≤ 255) (ht : 0 ≤ t ∧ t ≤ 255) (hd : 1 < d) (hr : Hid (rt 2 s t = true)) :
    Calls Tryd.prog 14 #[fl 2 s t, .int .u8 d, .agg F] w fun e w' => e = .returned (.tuple #[fl 0 0 0, .bool false]) ∧ Below w.heap.size w w' := by
  have Hi := Lib.hid h.out.hi
  have f1 := h.out.ckind
  have f2 := h.out.ctype
  unfold fl
  go_enter Tryd.func14, Tryd.ntmps14
  go_wp2_with fail
  refine (kindsU_any _).mono ?_
  rintro e w' ⟨rfl, rfl⟩
  go_wp2_with fail
  refine (right_any 2 s t _ hk ht (hA.out.below (by (repeat' (first | exact Below.refl _ _ | refine Below.alloc ?_ (by first | omega | (simp; done) | (simp; omega)) _))))).mono ?_
  rintro e w1 ⟨he, hb⟩
  rw [hr.out] at he
  subst he
  obtain ⟨hc, hf⟩ := bcell hb
  have hb0 : Below w.heap.size w w1 := bthen (by (repeat' (first | exact Below.refl _ _ | refine Below.alloc ?_ (by first | omega | (simp; done) | (simp; omega)) _))) hb
  have hR : w1.rangeAt (w.heap.size + 1) 0 F.toList := range_below hb (by first | (simp; done) | (simp; omega)) (by (repeat (first | exact range_new' _ _ _ _ (by simp) | refine World.rangeAt_alloc ?_ _)))
  have hz : w.heap.size + 1 + 1 + 1 + 1 < w1.heap.size := by have := hb.size; simp at this; omega
  have hz0 : w.heap.size < w1.heap.size := by omega
  have hz1 : w.heap.size + 1 < w1.heap.size := by omega
  have x1 : w1.cell? ⟨w.heap.size, 1, none⟩ = some (.int .u8 s) := by rw [hc _ _ (by first | (simp; done) | (simp; omega))]; simp [go_sem]
  have hz2 : w.heap.size + 1 + 1 < w1.heap.size := by omega
  go_wp2_with fail
  refine bodyPost_ret (v := .tuple #[fl 0 0 0, .bool false]) ?_ rfl ⟨rfl, by (repeat' (first | with_reducible exact hb0 | exact Below.refl _ _ | refine Below.setCell ?_ (by first | omega | (simp; done) | (simp; omega)) _ | refine Below.alloc ?_ (by first | omega | (simp; done) | (simp; omega)) _))⟩
  simp [results, Tryd.results14, go_sem, fl, hc, hz0, hz1, hz2, size_setC]

set_option maxHeartbeats 1000000 in
theorem step_Q_dir (F : Array Value) (s t d kind typ : Int) (w : World) (h : Hid (Fa F kind typ)) (hA : Hid (Ans w)) (hk : (0 : Int) ≤ 3 ∧ (3 : Int) ≤ 255) (ht : 0 ≤ t ∧ t ≤ 255) (hd : 1 < d) (hr : Hid (rt 3 s t = true)) :
    Calls Tryd.prog 14 #[fl 3 s t, .int .u8 d, .agg F] w fun e w' => e = .returned (.tuple #[fl 0 0 0, .bool false]) ∧ Below w.heap.size w w' := by
  have Hi := Lib.hid h.out.hi
  have f1 := h.out.ckind
  have f2 := h.out.ctype
  unfold fl
  go_enter Tryd.func14, Tryd.ntmps14
  go_wp2_with fail
  refine (kindsQ_any _).mono ?_
  rintro e w' ⟨rfl, rfl⟩
  go_wp2_with fail
  refine (right_any 3 s t _ hk ht (hA.out.below (by (repeat' (first | exact Below.refl _ _ | refine Below.alloc ?_ (by first | omega | (simp; done) | (simp; omega)) _))))).mono ?_
  rintro e w1 ⟨he, hb⟩
  rw [hr.out] at he
  subst he
  obtain ⟨hc, hf⟩ := bcell hb
  have hb0 : Below w.heap.size w w1 := bthen (by (repeat' (first | exact Below.refl _ _ | refine Below.alloc ?_ (by first | omega | (simp; done) | (simp; omega)) _))) hb
  have hR : w1.rangeAt (w.heap.size + 1) 0 F.toList := range_below hb (by first | (simp; done) | (simp; omega)) (by (repeat (first | exact range_new' _ _ _ _ (by simp) | refine World.rangeAt_alloc ?_ _)))
  have hz : w.heap.size + 1 + 1 + 1 + 1 < w1.heap.size := by have := hb.size; simp at this; omega
  have hz0 : w.heap.size < w1.heap.size := by omega
  have hz1 : w.heap.size + 1 < w1.heap.size := by omega
  have x1 : w1.cell? ⟨w.heap.size, 1, none⟩ = some (.int .u8 s) := by rw [hc _ _ (by first | (simp; done) | (simp; omega))]; simp [go_sem]
  have hz2 : w.heap.size + 1 + 1 < w1.heap.size := by omega
  go_wp2_with fail
  refine bodyPost_ret (v := .tuple #[fl 0 0 0, .bool false]) ?_ rfl ⟨rfl, by (repeat' (first | with_reducible exact hb0 | exact Below.refl _ _ | refine Below.setCell ?_ (by first | omega | (simp; done) | (simp; omega)) _ | refine Below.alloc ?_ (by first | omega | (simp; done) | (simp; omega)) _))⟩
  simp [results, Tryd.results14, go_sem, fl, hc, hz0, hz1, hz2, size_setC]

set_option maxHeartbeats 1000000 in
theorem step_U_no0 (F : Array Value) (s t kind typ : Int) (w : World) (h : Hid (Fa F kind typ)) (hA : Hid (Ans w)) (hk : (0 : Int) ≤ 2 ∧ (2 : Int) ≤ 255) (ht : 0 ≤ t ∧ t ≤ 255) (hr : Hid (rt 2 s t = true)) (ha : Hid ((kind == 2) = false)) :
    Calls Tryd.prog 14 #[fl 2 s t, .int .u8 0, .agg F] w fun e w' => e = .returned (.tuple #[fl 0 0 0, .bool false]) ∧ Below w.heap.size w w' := by
  have Hi := Lib.hid h.out.hi
  have f1 := h.out.ckind
  have f2 := h.out.ctype
  unfold fl
  go_enter Tryd.func14, Tryd.ntmps14
  go_wp2_with fail
  refine (kindsU_any _).mono ?_
  rintro e w' ⟨rfl, rfl⟩
  go_wp2_with fail
  refine (right_any 2 s t _ hk ht (hA.out.below (by (repeat' (first | exact Below.refl _ _ | refine Below.alloc ?_ (by first | omega | (simp; done) | (simp; omega)) _))))).mono ?_
  rintro e w1 ⟨he, hb⟩
  rw [hr.out] at he
  subst he
  obtain ⟨hc, hf⟩ := bcell hb
  have hb0 : Below w.heap.size w w1 := bthen (by (repeat' (first | exact Below.refl _ _ | refine Below.alloc ?_ (by first | omega | (simp; done) | (simp; omega)) _))) hb
  have hR : w1.rangeAt (w.heap.size + 1) 0 F.toList := range_below hb (by first | (simp; done) | (simp; omega)) (by (repeat (first | exact range_new' _ _ _ _ (by simp) | refine World.rangeAt_alloc ?_ _)))
  have hz : w.heap.size + 1 + 1 + 1 + 1 < w1.heap.size := by have := hb.size; simp at this; omega
  have hz0 : w.heap.size < w1.heap.size := by omega
  have hz1 : w.heap.size + 1 < w1.heap.size := by omega
  have x1 : w1.cell? ⟨w.heap.size, 1, none⟩ = some (.int .u8 s) := by rw [hc _ _ (by first | (simp; done) | (simp; omega))]; simp [go_sem]
  have hz2 : w.heap.size + 1 + 1 < w1.heap.size := by omega
  go_wp2_with (refine wpList_load_wide 29 _ rfl (by rfl) _ _ rfl F _ Tryd.underlying29 rfl Hi.out ?_ ?_; · exact hR)
  refine (kinds2_any F 2 s t 0 kind typ _ h.out).mono ?_
  rintro e w2 ⟨he, rfl⟩
  rw [ha.out] at he
  subst he
  go_wp2_with fail
  refine bodyPost_ret (v := .tuple #[fl 0 0 0, .bool false]) ?_ rfl ⟨rfl, by (repeat' (first | with_reducible exact hb0 | exact Below.refl _ _ | refine Below.setCell ?_ (by first | omega | (simp; done) | (simp; omega)) _ | refine Below.alloc ?_ (by first | omega | (simp; done) | (simp; omega)) _))⟩
  simp [results, Tryd.results14, go_sem, fl, hc, hz0, hz1, hz2, size_setC]

set_option maxHeartbeats 1000000 in
theorem step_U_yes0 (F : Array Value) (s t kind typ : Int) (w : World) (h : Hid (Fa F kind typ)) (hA : Hid (Ans w)) (hk : (0 : Int) ≤ 2 ∧ (2 : Int) ≤ 255) (ht : 0 ≤ t ∧ t ≤ 255) (hr : Hid (rt 2 s t = true)) (ha : Hid ((kind == 2) = true)) :
    Calls Tryd.prog 14 #[fl 2 s t, .int .u8 0, .agg F] w fun e w' => e = .returned (.tuple #[fl 2 s t, .bool true]) ∧ Below w.heap.size w w' := by
  have Hi := Lib.hid h.out.hi
  have f1 := h.out.ckind
  have f2 := h.out.ctype
  unfold fl
  go_enter Tryd.func14, Tryd.ntmps14
  go_wp2_with fail
  refine (kindsU_any _).mono ?_
  rintro e w' ⟨rfl, rfl⟩
  go_wp2_with fail
  refine (right_any 2 s t _ hk ht (hA.out.below (by (repeat' (first | exact Below.refl _ _ | refine Below.alloc ?_ (by first | omega | (simp; done) | (simp; omega)) _))))).mono ?_
  rintro e w1 ⟨he, hb⟩
  rw [hr.out] at he
  subst he
  obtain ⟨hc, hf⟩ := bcell hb
  have hb0 : Below w.heap.size w w1 := bthen (by (repeat' (first | exact Below.refl _ _ | refine Below.alloc ?_ (by first | omega | (simp; done) | (simp; omega)) _))) hb
  have hR : w1.rangeAt (w.heap.size + 1) 0 F.toList := range_below hb (by first | (simp; done) | (simp; omega)) (by (repeat (first | exact range_new' _ _ _ _ (by simp) | refine World.rangeAt_alloc ?_ _)))
  have hz : w.heap.size + 1 + 1 + 1 + 1 < w1.heap.size := by have := hb.size; simp at this; omega
  have hz0 : w.heap.size < w1.heap.size := by omega
  have hz1 : w.heap.size + 1 < w1.heap.size := by omega
  have x1 : w1.cell? ⟨w.heap.size, 1, none⟩ = some (.int .u8 s) := by rw [hc _ _ (by first | (simp; done) | (simp; omega))]; simp [go_sem]
  have hz2 : w.heap.size + 1 + 1 < w1.heap.size := by omega
  go_wp2_with (refine wpList_load_wide 29 _ rfl (by rfl) _ _ rfl F _ Tryd.underlying29 rfl Hi.out ?_ ?_; · exact hR)
  refine (kinds2_any F 2 s t 0 kind typ _ h.out).mono ?_
  rintro e w2 ⟨he, rfl⟩
  rw [ha.out] at he
  subst he
  go_wp2_with fail
  refine bodyPost_ret (v := .tuple #[fl 2 s t, .bool true]) ?_ rfl ⟨rfl, by (repeat' (first | with_reducible exact hb0 | exact Below.refl _ _ | refine Below.setCell ?_ (by first | omega | (simp; done) | (simp; omega)) _ | refine Below.alloc ?_ (by first | omega | (simp; done) | (simp; omega)) _))⟩
  simp [results, Tryd.results14, go_sem, fl, hc, hz0, hz1, hz2, size_setC]

set_option maxHeartbeats 1000000 in
theorem step_Q_no0 (F : Array Value) (s t kind typ : Int) (w : World) (h : Hid (Fa F kind typ)) (hA : Hid (Ans w)) (hk : (0 : Int) ≤ 3 ∧ (3 : Int) ≤ 255) (ht : 0 ≤ t ∧ t ≤ 255) (hr : Hid (rt 3 s t = true)) (ha : Hid (allowsQ t 0 kind typ = false)) :
    Calls Tryd.prog 14 #[fl 3 s t, .int .u8 0, .agg F] w fun e w' => e = .returned (.tuple #[fl 0 0 0, .bool false]) ∧ Below w.heap.size w w' := by
  have Hi := Lib.hid h.out.hi
  have f1 := h.out.ckind
  have f2 := h.out.ctype
  unfold fl
  go_enter Tryd.func14, Tryd.ntmps14
  go_wp2_with fail
  refine (kindsQ_any _).mono ?_
  rintro e w' ⟨rfl, rfl⟩
  go_wp2_with fail
  refine (right_any 3 s t _ hk ht (hA.out.below (by (repeat' (first | exact Below.refl _ _ | refine Below.alloc ?_ (by first | omega | (simp; done) | (simp; omega)) _))))).mono ?_
  rintro e w1 ⟨he, hb⟩
  rw [hr.out] at he
  subst he
  obtain ⟨hc, hf⟩ := bcell hb
  have hb0 : Below w.heap.size w w1 := bthen (by (repeat' (first | exact Below.refl _ _ | refine Below.alloc ?_ (by first | omega | (simp; done) | (simp; omega)) _))) hb
  have hR : w1.rangeAt (w.heap.size + 1) 0 F.toList := range_below hb (by first | (simp; done) | (simp; omega)) (by (repeat (first | exact range_new' _ _ _ _ (by simp) | refine World.rangeAt_alloc ?_ _)))
  have hz : w.heap.size + 1 + 1 + 1 + 1 < w1.heap.size := by have := hb.size; simp at this; omega
  have hz0 : w.heap.size < w1.heap.size := by omega
  have hz1 : w.heap.size + 1 < w1.heap.size := by omega
  have x1 : w1.cell? ⟨w.heap.size, 1, none⟩ = some (.int .u8 s) := by rw [hc _ _ (by first | (simp; done) | (simp; omega))]; simp [go_sem]
  have hz2 : w.heap.size + 1 + 1 < w1.heap.size := by omega
  go_wp2_with (refine wpList_load_wide 29 _ rfl (by rfl) _ _ rfl F _ Tryd.underlying29 rfl Hi.out ?_ ?_; · exact hR)
  refine (kinds4_any F 3 s t 0 kind typ _ h.out (hA.out.below hb0) ht.1 ht.2).mono ?_
  rintro e w2 ⟨he, rfl⟩
  rw [ha.out] at he
  subst he
  go_wp2_with fail
  refine bodyPost_ret (v := .tuple #[fl 0 0 0, .bool false]) ?_ rfl ⟨rfl, by (repeat' (first | with_reducible exact hb0 | exact Below.refl _ _ | refine Below.setCell ?_ (by first | omega | (simp; done) | (simp; omega)) _ | refine Below.alloc ?_ (by first | omega | (simp; done) | (simp; omega)) _))⟩
  simp [results, Tryd.results14, go_sem, fl, hc, hz0, hz1, hz2, size_setC]

set_option maxHeartbeats 1000000 in
theorem step_Q_yes0 (F : Array Value) (s t kind typ : Int) (w : World) (h : Hid (Fa F kind typ)) (hA : Hid (Ans w)) (hk : (0 : Int) ≤ 3 ∧ (3 : Int) ≤ 255) (ht : 0 ≤ t ∧ t ≤ 255) (hr : Hid (rt 3 s t = true)) (ha : Hid (allowsQ t 0 kind typ = true)) :
    Calls Tryd.prog 14 #[fl 3 s t, .int .u8 0, .agg F] w fun e w' => e = .returned (.tuple #[fl 3 s t, .bool true]) ∧ Below w.heap.size w w' := by
  have Hi := Lib.hid h.out.hi
  have f1 := h.out.ckind
  have f2 := h.out.ctype
  unfold fl
  go_enter Tryd.func14, Tryd.ntmps14
  go_wp2_with fail
  refine (kindsQ_any _).mono ?_
  rintro e w' ⟨rfl, rfl⟩
  go_wp2_with fail
  refine (right_any 3 s t _ hk ht (hA.out.below (by (repeat' (first | exact Below.refl _ _ | refine Below.alloc ?_ (by first | omega | (simp; done) | (simp; omega)) _))))).mono ?_
  rintro e w1 ⟨he, hb⟩
  rw [hr.out] at he
  subst he
  obtain ⟨hc, hf⟩ := bcell hb
  have hb0 : Below w.heap.size w w1 := bthen (by (repeat' (first | exact Below.refl _ _ | refine Below.alloc ?_ (by first | omega | (simp; done) | (simp; omega)) _))) hb
  have hR : w1.rangeAt (w.heap.size + 1) 0 F.toList := range_below hb (by first | (simp; done) | (simp; omega)) (by (repeat (first | exact range_new' _ _ _ _ (by simp) | refine World.rangeAt_alloc ?_ _)))
  have hz : w.heap.size + 1 + 1 + 1 + 1 < w1.heap.size := by have := hb.size; simp at this; omega
  have hz0 : w.heap.size < w1.heap.size := by omega
  have hz1 : w.heap.size + 1 < w1.heap.size := by omega
  have x1 : w1.cell? ⟨w.heap.size, 1, none⟩ = some (.int .u8 s) := by rw [hc _ _ (by first | (simp; done) | (simp; omega))]; simp [go_sem]
  have hz2 : w.heap.size + 1 + 1 < w1.heap.size := by omega
  go_wp2_with (refine wpList_load_wide 29 _ rfl (by rfl) _ _ rfl F _ Tryd.underlying29 rfl Hi.out ?_ ?_; · exact hR)
  refine (kinds4_any F 3 s t 0 kind typ _ h.out (hA.out.below hb0) ht.1 ht.2).mono ?_
  rintro e w2 ⟨he, rfl⟩
  rw [ha.out] at he
  subst he
  go_wp2_with fail
  refine bodyPost_ret (v := .tuple #[fl 3 s t, .bool true]) ?_ rfl ⟨rfl, by (repeat' (first | with_reducible exact hb0 | exact Below.refl _ _ | refine Below.setCell ?_ (by first | omega | (simp; done) | (simp; omega)) _ | refine Below.alloc ?_ (by first | omega | (simp; done) | (simp; omega)) _))⟩
  simp [results, Tryd.results14, go_sem, fl, hc, hz0, hz1, hz2, size_setC]

set_option maxHeartbeats 1000000 in
theorem step_U_no1 (F : Array Value) (s t kind typ : Int) (w : World) (h : Hid (Fa F kind typ)) (hA : Hid (Ans w)) (hk : (0 : Int) ≤ 2 ∧ (2 : Int) ≤ 255) (ht : 0 ≤ t ∧ t ≤ 255) (hr : Hid (rt 2 s t = true)) (ha : Hid ((kind == 2) = false)) :
    Calls Tryd.prog 14 #[fl 2 s t, .int .u8 1, .agg F] w fun e w' => e = .returned (.tuple #[fl 0 0 0, .bool false]) ∧ Below w.heap.size w w' := by
  have Hi := Lib.hid h.out.hi
  have f1 := h.out.ckind
  have f2 := h.out.ctype
  unfold fl
  go_enter Tryd.func14, Tryd.ntmps14
  go_wp2_with fail
  refine (kindsU_any _).mono ?_
  rintro e w' ⟨rfl, rfl⟩
  go_wp2_with fail
  refine (right_any 2 s t _ hk ht (hA.out.below (by (repeat' (first | exact Below.refl _ _ | refine Below.alloc ?_ (by first | omega | (simp; done) | (simp; omega)) _))))).mono ?_
  rintro e w1 ⟨he, hb⟩
  rw [hr.out] at he
  subst he
  obtain ⟨hc, hf⟩ := bcell hb
  have hb0 : Below w.heap.size w w1 := bthen (by (repeat' (first | exact Below.refl _ _ | refine Below.alloc ?_ (by first | omega | (simp; done) | (simp; omega)) _))) hb
  have hR : w1.rangeAt (w.heap.size + 1) 0 F.toList := range_below hb (by first | (simp; done) | (simp; omega)) (by (repeat (first | exact range_new' _ _ _ _ (by simp) | refine World.rangeAt_alloc ?_ _)))
  have hz : w.heap.size + 1 + 1 + 1 + 1 < w1.heap.size := by have := hb.size; simp at this; omega
  have hz0 : w.heap.size < w1.heap.size := by omega
  have hz1 : w.heap.size + 1 < w1.heap.size := by omega
  have x1 : w1.cell? ⟨w.heap.size, 1, none⟩ = some (.int .u8 s) := by rw [hc _ _ (by first | (simp; done) | (simp; omega))]; simp [go_sem]
  have hz2 : w.heap.size + 1 + 1 < w1.heap.size := by omega
  go_wp2_with (refine wpList_load_wide 29 _ rfl (by rfl) _ _ rfl F _ Tryd.underlying29 rfl Hi.out ?_ ?_; · exact hR)
  refine (kinds2_any F 2 s t 1 kind typ _ h.out).mono ?_
  rintro e w2 ⟨he, rfl⟩
  rw [ha.out] at he
  subst he
  go_wp2_with fail
  refine bodyPost_ret (v := .tuple #[fl 0 0 0, .bool false]) ?_ rfl ⟨rfl, by (repeat' (first | with_reducible exact hb0 | exact Below.refl _ _ | refine Below.setCell ?_ (by first | omega | (simp; done) | (simp; omega)) _ | refine Below.alloc ?_ (by first | omega | (simp; done) | (simp; omega)) _))⟩
  simp [results, Tryd.results14, go_sem, fl, hc, hz0, hz1, hz2, size_setC]

set_option maxHeartbeats 1000000 in
theorem step_U_yes1 (F : Array Value) (s t kind typ : Int) (w : World) (h : Hid (Fa F kind typ)) (hA : Hid (Ans w)) (hk : (0 : Int) ≤ 2 ∧ (2 : Int) ≤ 255) (ht : 0 ≤ t ∧ t ≤ 255) (hr : Hid (rt 2 s t = true)) (ha : Hid ((kind == 2) = true)) :
    Calls Tryd.prog 14 #[fl 2 s t, .int .u8 1, .agg F] w fun e w' => e = .returned (.tuple #[fl 2 2 t, .bool true]) ∧ Below w.heap.size w w' := by
  have Hi := Lib.hid h.out.hi
  have f1 := h.out.ckind
  have f2 := h.out.ctype
  unfold fl
  go_enter Tryd.func14, Tryd.ntmps14
  go_wp2_with fail
  refine (kindsU_any _).mono ?_
  rintro e w' ⟨rfl, rfl⟩
  go_wp2_with fail
  refine (right_any 2 s t _ hk ht (hA.out.below (by (repeat' (first | exact Below.refl _ _ | refine Below.alloc ?_ (by first | omega | (simp; done) | (simp; omega)) _))))).mono ?_
  rintro e w1 ⟨he, hb⟩
  rw [hr.out] at he
  subst he
  obtain ⟨hc, hf⟩ := bcell hb
  have hb0 : Below w.heap.size w w1 := bthen (by (repeat' (first | exact Below.refl _ _ | refine Below.alloc ?_ (by first | omega | (simp; done) | (simp; omega)) _))) hb
  have hR : w1.rangeAt (w.heap.size + 1) 0 F.toList := range_below hb (by first | (simp; done) | (simp; omega)) (by (repeat (first | exact range_new' _ _ _ _ (by simp) | refine World.rangeAt_alloc ?_ _)))
  have hz : w.heap.size + 1 + 1 + 1 + 1 < w1.heap.size := by have := hb.size; simp at this; omega
  have hz0 : w.heap.size < w1.heap.size := by omega
  have hz1 : w.heap.size + 1 < w1.heap.size := by omega
  have x1 : w1.cell? ⟨w.heap.size, 1, none⟩ = some (.int .u8 s) := by rw [hc _ _ (by first | (simp; done) | (simp; omega))]; simp [go_sem]
  have hz2 : w.heap.size + 1 + 1 < w1.heap.size := by omega
  go_wp2_with (refine wpList_load_wide 29 _ rfl (by rfl) _ _ rfl F _ Tryd.underlying29 rfl Hi.out ?_ ?_; · exact hR)
  refine (kinds2_any F 2 s t 1 kind typ _ h.out).mono ?_
  rintro e w2 ⟨he, rfl⟩
  rw [ha.out] at he
  subst he
  go_wp2_with fail
  refine bodyPost_ret (v := .tuple #[fl 2 2 t, .bool true]) ?_ rfl ⟨rfl, by (repeat' (first | with_reducible exact hb0 | exact Below.refl _ _ | refine Below.setCell ?_ (by first | omega | (simp; done) | (simp; omega)) _ | refine Below.alloc ?_ (by first | omega | (simp; done) | (simp; omega)) _))⟩
  simp [results, Tryd.results14, go_sem, fl, hc, hz0, hz1, hz2, size_setC]

set_option maxHeartbeats 1000000 in
theorem step_Q_no1 (F : Array Value) (s t kind typ : Int) (w : World) (h : Hid (Fa F kind typ)) (hA : Hid (Ans w)) (hk : (0 : Int) ≤ 3 ∧ (3 : Int) ≤ 255) (ht : 0 ≤ t ∧ t ≤ 255) (hr : Hid (rt 3 s t = true)) (ha : Hid (allowsQ t 1 kind typ = false)) :
    Calls Tryd.prog 14 #[fl 3 s t, .int .u8 1, .agg F] w fun e w' => e = .returned (.tuple #[fl 0 0 0, .bool false]) ∧ Below w.heap.size w w' := by
  have Hi := Lib.hid h.out.hi
  have f1 := h.out.ckind
  have f2 := h.out.ctype
  unfold fl
  go_enter Tryd.func14, Tryd.ntmps14
  go_wp2_with fail
  refine (kindsQ_any _).mono ?_
  rintro e w' ⟨rfl, rfl⟩
  go_wp2_with fail
  refine (right_any 3 s t _ hk ht (hA.out.below (by (repeat' (first | exact Below.refl _ _ | refine Below.alloc ?_ (by first | omega | (simp; done) | (simp; omega)) _))))).mono ?_
  rintro e w1 ⟨he, hb⟩
  rw [hr.out] at he
  subst he
  obtain ⟨hc, hf⟩ := bcell hb
  have hb0 : Below w.heap.size w w1 := bthen (by (repeat' (first | exact Below.refl _ _ | refine Below.alloc ?_ (by first | omega | (simp; done) | (simp; omega)) _))) hb
  have hR : w1.rangeAt (w.heap.size + 1) 0 F.toList := range_below hb (by first | (simp; done) | (simp; omega)) (by (repeat (first | exact range_new' _ _ _ _ (by simp) | refine World.rangeAt_alloc ?_ _)))
  have hz : w.heap.size + 1 + 1 + 1 + 1 < w1.heap.size := by have := hb.size; simp at this; omega
  have hz0 : w.heap.size < w1.heap.size := by omega
  have hz1 : w.heap.size + 1 < w1.heap.size := by omega
  have x1 : w1.cell? ⟨w.heap.size, 1, none⟩ = some (.int .u8 s) := by rw [hc _ _ (by first | (simp; done) | (simp; omega))]; simp [go_sem]
  have hz2 : w.heap.size + 1 + 1 < w1.heap.size := by omega
  go_wp2_with (refine wpList_load_wide 29 _ rfl (by rfl) _ _ rfl F _ Tryd.underlying29 rfl Hi.out ?_ ?_; · exact hR)
  refine (kinds4_any F 3 s t 1 kind typ _ h.out (hA.out.below hb0) ht.1 ht.2).mono ?_
  rintro e w2 ⟨he, rfl⟩
  rw [ha.out] at he
  subst he
  go_wp2_with fail
  refine bodyPost_ret (v := .tuple #[fl 0 0 0, .bool false]) ?_ rfl ⟨rfl, by (repeat' (first | with_reducible exact hb0 | exact Below.refl _ _ | refine Below.setCell ?_ (by first | omega | (simp; done) | (simp; omega)) _ | refine Below.alloc ?_ (by first | omega | (simp; done) | (simp; omega)) _))⟩
  simp [results, Tryd.results14, go_sem, fl, hc, hz0, hz1, hz2, size_setC]

set_option maxHeartbeats 1000000 in
theorem step_Q_yes1 (F : Array Value) (s t kind typ : Int) (w : World) (h : Hid (Fa F kind typ)) (hA : Hid (Ans w)) (hk : (0 : Int) ≤ 3 ∧ (3 : Int) ≤ 255) (ht : 0 ≤ t ∧ t ≤ 255) (hr : Hid (rt 3 s t = true)) (ha : Hid (allowsQ t 1 kind typ = true)) :
    Calls Tryd.prog 14 #[fl 3 s t, .int .u8 1, .agg F] w fun e w' => e = .returned (.tuple #[fl 3 2 t, .bool true]) ∧ Below w.heap.size w w' := by
  have Hi := Lib.hid h.out.hi
  have f1 := h.out.ckind
  have f2 := h.out.ctype
  unfold fl
  go_enter Tryd.func14, Tryd.ntmps14
  go_wp2_with fail
  refine (kindsQ_any _).mono ?_
  rintro e w' ⟨rfl, rfl⟩
  go_wp2_with fail
  refine (right_any 3 s t _ hk ht (hA.out.below (by (repeat' (first | exact Below.refl _ _ | refine Below.alloc ?_ (by first | omega | (simp; done) | (simp; omega)) _))))).mono ?_
  rintro e w1 ⟨he, hb⟩
  rw [hr.out] at he
  subst he
  obtain ⟨hc, hf⟩ := bcell hb
  have hb0 : Below w.heap.size w w1 := bthen (by (repeat' (first | exact Below.refl _ _ | refine Below.alloc ?_ (by first | omega | (simp; done) | (simp; omega)) _))) hb
  have hR : w1.rangeAt (w.heap.size + 1) 0 F.toList := range_below hb (by first | (simp; done) | (simp; omega)) (by (repeat (first | exact range_new' _ _ _ _ (by simp) | refine World.rangeAt_alloc ?_ _)))
  have hz : w.heap.size + 1 + 1 + 1 + 1 < w1.heap.size := by have := hb.size; simp at this; omega
  have hz0 : w.heap.size < w1.heap.size := by omega
  have hz1 : w.heap.size + 1 < w1.heap.size := by omega
  have x1 : w1.cell? ⟨w.heap.size, 1, none⟩ = some (.int .u8 s) := by rw [hc _ _ (by first | (simp; done) | (simp; omega))]; simp [go_sem]
  have hz2 : w.heap.size + 1 + 1 < w1.heap.size := by omega
  go_wp2_with (refine wpList_load_wide 29 _ rfl (by rfl) _ _ rfl F _ Tryd.underlying29 rfl Hi.out ?_ ?_; · exact hR)
  refine (kinds4_any F 3 s t 1 kind typ _ h.out (hA.out.below hb0) ht.1 ht.2).mono ?_
  rintro e w2 ⟨he, rfl⟩
  rw [ha.out] at he
  subst he
  go_wp2_with fail
  refine bodyPost_ret (v := .tuple #[fl 3 2 t, .bool true]) ?_ rfl ⟨rfl, by (repeat' (first | with_reducible exact hb0 | exact Below.refl _ _ | refine Below.setCell ?_ (by first | omega | (simp; done) | (simp; omega)) _ | refine Below.alloc ?_ (by first | omega | (simp; done) | (simp; omega)) _))⟩
  simp [results, Tryd.results14, go_sem, fl, hc, hz0, hz1, hz2, size_setC]

theorem rt_kind {k s t : Int} (h : rt k s t = true) : k = 2 ∨ k = 3 := by
  simp [rt, opens] at h
  omega

/-- stream.Step, whatever the flow, direction and packet. -/
theorem step_any (F : Array Value) (k s t d kind typ : Int) (w : World) (h : Fa F kind typ) (hA : Ans w) (hk : 0 ≤ k ∧ k ≤ 255) (ht : 0 ≤ t ∧ t ≤ 255) (hd : 0 ≤ d) :
    Calls Tryd.prog 14 #[fl k s t, .int .u8 d, .agg F] w fun e w' => e = .returned (.tuple #[flv (stF k s t d kind typ), .bool (alw k s t d kind typ)]) ∧ Below w.heap.size w w' := by
  cases hr : rt k s t
  · have e : alw k s t d kind typ = false := by simp [alw, hr]
    rw [stF, e]
    by_cases h2 : k = 2
    · subst h2
      exact step_U_wrong F s t d kind typ w h hA hk ht hr
    · by_cases h3 : k = 3
      · subst h3
        exact step_Q_wrong F s t d kind typ w h hA hk ht hr
      · exact step_F_wrong F k s t d kind typ w h hA hk ht (by simpa using h2) (by simpa using h3) hr
  · by_cases hd1 : 1 < d
    · have e : alw k s t d kind typ = false := by simp [alw, hr]; intro h; omega
      rw [stF, e]
      rcases rt_kind hr with rfl | rfl
      · exact step_U_dir F s t d kind typ w h hA hk ht hd1 hr
      · exact step_Q_dir F s t d kind typ w h hA hk ht hd1 hr
    · rcases rt_kind hr with rfl | rfl
      · have e : alw 2 s t d kind typ = (kind == 2) := by simp [alw, hr]; omega
        rw [stF, e]
        obtain rfl | rfl : d = 0 ∨ d = 1 := by omega
        · cases ha : kind == 2
          · exact step_U_no0 F s t kind typ w h hA hk ht hr ha
          · exact step_U_yes0 F s t kind typ w h hA hk ht hr ha
        · cases ha : kind == 2
          · exact step_U_no1 F s t kind typ w h hA hk ht hr ha
          · exact step_U_yes1 F s t kind typ w h hA hk ht hr ha
      · have e : alw 3 s t d kind typ = allowsQ t d kind typ := by simp [alw, hr]; omega
        rw [stF, e]
        obtain rfl | rfl : d = 0 ∨ d = 1 := by omega
        · cases ha : allowsQ t 0 kind typ
          · exact step_Q_no0 F s t kind typ w h hA hk ht hr ha
          · exact step_Q_yes0 F s t kind typ w h hA hk ht hr ha
        · cases ha : allowsQ t 1 kind typ
          · exact step_Q_no1 F s t kind typ w h hA hk ht hr ha
          · exact step_Q_yes1 F s t kind typ w h hA hk ht hr ha

end Go.Proofs.YtjmcpgagbjmfgaaDoor
