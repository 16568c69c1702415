/-
  The contract of baffleref22.Step.
-/
import Derived.Test.YtjmcpgagbjmfgaaDoorStep
import Derived.Test.YtjmcpgagbjmfgaaDoorRef
namespace Go.Proofs.YtjmcpgagbjmfgaaDoor
open Go.RowKit
set_option linter.unusedVariables false
set_option linter.unusedSimpArgs false

set_option maxHeartbeats 1000000 in
theorem rstep_wrong (F : Array Value) (k s t d kind typ : Int) (w : World) (h : Hid (Fa F kind typ)) (ht : 0 ≤ t ∧ t ≤ 255) (hr : Hid (rt k s t = false)) :
    Calls Tryd.prog 22 #[fl k s t, .int .u8 d, .agg F] w fun e w' => e = .returned (.tuple #[fl 0 0 0, .bool false]) ∧ Below w.heap.size w w' := by
  have f1 := h.out.ckind
  have f2 := h.out.ctype
  have f3 := h.out.bt.1
  have f4 := h.out.bt.2
  unfold fl
  go_enter Tryd.func22, Tryd.ntmps22
  go_wp2_with fail
  refine (rright_any k s t _ ht.1 ht.2).mono ?_
  rintro e w1 ⟨he, rfl⟩
  rw [hr.out] at he
  subst he
  go_wp2_with fail
  refine bodyPost_ret (v := .tuple #[fl 0 0 0, .bool false]) ?_ rfl ⟨rfl, by (repeat' (first | with_reducible assumption | exact Below.refl _ _ | refine below_drewN ?_ _ | refine Below.setCell ?_ (by first | omega | (simp; done) | (simp; omega)) _ | refine Below.alloc ?_ (by first | omega | (simp; done) | (simp; omega)) _))⟩
  simp [results, Tryd.results22, go_sem, fl]

set_option maxHeartbeats 1000000 in
theorem rstep_dir (F : Array Value) (k s t d kind typ : Int) (w : World) (h : Hid (Fa F kind typ)) (ht : 0 ≤ t ∧ t ≤ 255) (hr : Hid (rt k s t = true)) (hd : 1 < d) :
    Calls Tryd.prog 22 #[fl k s t, .int .u8 d, .agg F] w fun e w' => e = .returned (.tuple #[fl 0 0 0, .bool false]) ∧ Below w.heap.size w w' := by
  have f1 := h.out.ckind
  have f2 := h.out.ctype
  have f3 := h.out.bt.1
  have f4 := h.out.bt.2
  unfold fl
  go_enter Tryd.func22, Tryd.ntmps22
  go_wp2_with fail
  refine (rright_any k s t _ ht.1 ht.2).mono ?_
  rintro e w1 ⟨he, rfl⟩
  rw [hr.out] at he
  subst he
  go_wp2_with fail
  refine bodyPost_ret (v := .tuple #[fl 0 0 0, .bool false]) ?_ rfl ⟨rfl, by (repeat' (first | with_reducible assumption | exact Below.refl _ _ | refine below_drewN ?_ _ | refine Below.setCell ?_ (by first | omega | (simp; done) | (simp; omega)) _ | refine Below.alloc ?_ (by first | omega | (simp; done) | (simp; omega)) _))⟩
  simp [results, Tryd.results22, go_sem, fl]

set_option maxHeartbeats 1000000 in
theorem rstep_U_no0 (F : Array Value) (s t kind typ : Int) (w : World) (h : Hid (Fa F kind typ)) (ht : 0 ≤ t ∧ t ≤ 255) (hr : Hid (rt 2 s t = true)) (ha : (kind != 2) = true) :
    Calls Tryd.prog 22 #[fl 2 s t, .int .u8 0, .agg F] w fun e w' => e = .returned (.tuple #[fl 0 0 0, .bool false]) ∧ Below w.heap.size w w' := by
  have f1 := h.out.ckind
  have f2 := h.out.ctype
  have f3 := h.out.bt.1
  have f4 := h.out.bt.2
  unfold fl
  go_enter Tryd.func22, Tryd.ntmps22
  go_wp2_with fail
  refine (rright_any 2 s t _ ht.1 ht.2).mono ?_
  rintro e w1 ⟨he, rfl⟩
  rw [hr.out] at he
  subst he
  go_wp2_with fail
  refine bodyPost_ret (v := .tuple #[fl 0 0 0, .bool false]) ?_ rfl ⟨rfl, by (repeat' (first | with_reducible assumption | exact Below.refl _ _ | refine below_drewN ?_ _ | refine Below.setCell ?_ (by first | omega | (simp; done) | (simp; omega)) _ | refine Below.alloc ?_ (by first | omega | (simp; done) | (simp; omega)) _))⟩
  simp [results, Tryd.results22, go_sem, fl]

set_option maxHeartbeats 1000000 in
theorem rstep_U_yes0 (F : Array Value) (s t kind typ : Int) (w : World) (h : Hid (Fa F kind typ)) (ht : 0 ≤ t ∧ t ≤ 255) (hr : Hid (rt 2 s t = true)) (ha : (kind != 2) = false) :
    Calls Tryd.prog 22 #[fl 2 s t, .int .u8 0, .agg F] w fun e w' => e = .returned (.tuple #[fl 2 s t, .bool true]) ∧ Below w.heap.size w w' := by
  have f1 := h.out.ckind
  have f2 := h.out.ctype
  have f3 := h.out.bt.1
  have f4 := h.out.bt.2
  unfold fl
  go_enter Tryd.func22, Tryd.ntmps22
  go_wp2_with fail
  refine (rright_any 2 s t _ ht.1 ht.2).mono ?_
  rintro e w1 ⟨he, rfl⟩
  rw [hr.out] at he
  subst he
  go_wp2_with fail
  go_quiet (fail)
  go_wp2_with fail
  refine bodyPost_ret (v := .tuple #[fl 2 s t, .bool true]) ?_ rfl ⟨rfl, by (repeat' (first | with_reducible assumption | exact Below.refl _ _ | refine below_drewN ?_ _ | refine Below.setCell ?_ (by first | omega | (simp; done) | (simp; omega)) _ | refine Below.alloc ?_ (by first | omega | (simp; done) | (simp; omega)) _))⟩
  simp [results, Tryd.results22, go_sem, fl]

set_option maxHeartbeats 1000000 in
theorem rstep_U_no1 (F : Array Value) (s t kind typ : Int) (w : World) (h : Hid (Fa F kind typ)) (ht : 0 ≤ t ∧ t ≤ 255) (hr : Hid (rt 2 s t = true)) (ha : (kind != 2) = true) :
    Calls Tryd.prog 22 #[fl 2 s t, .int .u8 1, .agg F] w fun e w' => e = .returned (.tuple #[fl 0 0 0, .bool false]) ∧ Below w.heap.size w w' := by
  have f1 := h.out.ckind
  have f2 := h.out.ctype
  have f3 := h.out.bt.1
  have f4 := h.out.bt.2
  unfold fl
  go_enter Tryd.func22, Tryd.ntmps22
  go_wp2_with fail
  refine (rright_any 2 s t _ ht.1 ht.2).mono ?_
  rintro e w1 ⟨he, rfl⟩
  rw [hr.out] at he
  subst he
  go_wp2_with fail
  refine bodyPost_ret (v := .tuple #[fl 0 0 0, .bool false]) ?_ rfl ⟨rfl, by (repeat' (first | with_reducible assumption | exact Below.refl _ _ | refine below_drewN ?_ _ | refine Below.setCell ?_ (by first | omega | (simp; done) | (simp; omega)) _ | refine Below.alloc ?_ (by first | omega | (simp; done) | (simp; omega)) _))⟩
  simp [results, Tryd.results22, go_sem, fl]

set_option maxHeartbeats 1000000 in
theorem rstep_U_yes1 (F : Array Value) (s t kind typ : Int) (w : World) (h : Hid (Fa F kind typ)) (ht : 0 ≤ t ∧ t ≤ 255) (hr : Hid (rt 2 s t = true)) (ha : (kind != 2) = false) :
    Calls Tryd.prog 22 #[fl 2 s t, .int .u8 1, .agg F] w fun e w' => e = .returned (.tuple #[fl 2 2 t, .bool true]) ∧ Below w.heap.size w w' := by
  have f1 := h.out.ckind
  have f2 := h.out.ctype
  have f3 := h.out.bt.1
  have f4 := h.out.bt.2
  unfold fl
  go_enter Tryd.func22, Tryd.ntmps22
  go_wp2_with fail
  refine (rright_any 2 s t _ ht.1 ht.2).mono ?_
  rintro e w1 ⟨he, rfl⟩
  rw [hr.out] at he
  subst he
  go_wp2_with fail
  go_quiet (fail)
  generalize hV : World.drewN _ _ = V
  have hb0 : Below w.heap.size w V := by subst hV; (repeat' (first | with_reducible assumption | exact Below.refl _ _ | refine below_drewN ?_ _ | refine Below.setCell ?_ (by first | omega | (simp; done) | (simp; omega)) _ | refine Below.alloc ?_ (by first | omega | (simp; done) | (simp; omega)) _))
  have x0 : V.cell? ⟨w.heap.size, 0, none⟩ = some (.int .u8 2) := by subst hV; simp [go_sem]
  have xf0 : V.frozen? ⟨w.heap.size, 0, none⟩ = false := by subst hV; simp [go_sem]
  have x1 : V.cell? ⟨w.heap.size, 1, none⟩ = some (.int .u8 s) := by subst hV; simp [go_sem]
  have xf1 : V.frozen? ⟨w.heap.size, 1, none⟩ = false := by subst hV; simp [go_sem]
  have x2 : V.cell? ⟨w.heap.size, 2, none⟩ = some (.int .u8 t) := by subst hV; simp [go_sem]
  have xf2 : V.frozen? ⟨w.heap.size, 2, none⟩ = false := by subst hV; simp [go_sem]
  have r0 : V.cell? ⟨w.heap.size + 1 + 1, 0, none⟩ = some (.int .u8 0) := by subst hV; simp [go_sem]
  have rf0 : V.frozen? ⟨w.heap.size + 1 + 1, 0, none⟩ = false := by subst hV; simp [go_sem]
  have r1 : V.cell? ⟨w.heap.size + 1 + 1, 1, none⟩ = some (.int .u8 0) := by subst hV; simp [go_sem]
  have rf1 : V.frozen? ⟨w.heap.size + 1 + 1, 1, none⟩ = false := by subst hV; simp [go_sem]
  have r2 : V.cell? ⟨w.heap.size + 1 + 1, 2, none⟩ = some (.int .u8 0) := by subst hV; simp [go_sem]
  have rf2 : V.frozen? ⟨w.heap.size + 1 + 1, 2, none⟩ = false := by subst hV; simp [go_sem]
  clear hV
  go_wp2_with fail
  refine bodyPost_ret (v := .tuple #[fl 2 2 t, .bool true]) ?_ rfl ⟨rfl, by (repeat' (first | with_reducible assumption | exact Below.refl _ _ | refine below_drewN ?_ _ | refine Below.setCell ?_ (by first | omega | (simp; done) | (simp; omega)) _ | refine Below.alloc ?_ (by first | omega | (simp; done) | (simp; omega)) _))⟩
  simp [results, Tryd.results22, go_sem, fl, x0, x1, x2, r0, r1, r2]

set_option maxHeartbeats 1000000 in
theorem rstep_Q_no0a (F : Array Value) (s t kind typ : Int) (w : World) (h : Hid (Fa F kind typ)) (ht : 0 ≤ t ∧ t ≤ 255) (hr : Hid (rt 3 s t = true)) (ha : (kind != 3) = true) :
    Calls Tryd.prog 22 #[fl 3 s t, .int .u8 0, .agg F] w fun e w' => e = .returned (.tuple #[fl 0 0 0, .bool false]) ∧ Below w.heap.size w w' := by
  have f1 := h.out.ckind
  have f2 := h.out.ctype
  have f3 := h.out.bt.1
  have f4 := h.out.bt.2
  unfold fl
  go_enter Tryd.func22, Tryd.ntmps22
  go_wp2_with fail
  refine (rright_any 3 s t _ ht.1 ht.2).mono ?_
  rintro e w1 ⟨he, rfl⟩
  rw [hr.out] at he
  subst he
  go_wp2_with fail
  refine bodyPost_ret (v := .tuple #[fl 0 0 0, .bool false]) ?_ rfl ⟨rfl, by (repeat' (first | with_reducible assumption | exact Below.refl _ _ | refine below_drewN ?_ _ | refine Below.setCell ?_ (by first | omega | (simp; done) | (simp; omega)) _ | refine Below.alloc ?_ (by first | omega | (simp; done) | (simp; omega)) _))⟩
  simp [results, Tryd.results22, go_sem, fl]

set_option maxHeartbeats 1000000 in
theorem rstep_Q_no0b (F : Array Value) (s t kind typ : Int) (w : World) (h : Hid (Fa F kind typ)) (ht : 0 ≤ t ∧ t ≤ 255) (hr : Hid (rt 3 s t = true)) (ha : (kind != 3) = false) (hb : (typ != t) = true) :
    Calls Tryd.prog 22 #[fl 3 s t, .int .u8 0, .agg F] w fun e w' => e = .returned (.tuple #[fl 0 0 0, .bool false]) ∧ Below w.heap.size w w' := by
  have f1 := h.out.ckind
  have f2 := h.out.ctype
  have f3 := h.out.bt.1
  have f4 := h.out.bt.2
  unfold fl
  go_enter Tryd.func22, Tryd.ntmps22
  go_wp2_with fail
  refine (rright_any 3 s t _ ht.1 ht.2).mono ?_
  rintro e w1 ⟨he, rfl⟩
  rw [hr.out] at he
  subst he
  go_wp2_with fail
  refine bodyPost_ret (v := .tuple #[fl 0 0 0, .bool false]) ?_ rfl ⟨rfl, by (repeat' (first | with_reducible assumption | exact Below.refl _ _ | refine below_drewN ?_ _ | refine Below.setCell ?_ (by first | omega | (simp; done) | (simp; omega)) _ | refine Below.alloc ?_ (by first | omega | (simp; done) | (simp; omega)) _))⟩
  simp [results, Tryd.results22, go_sem, fl]

set_option maxHeartbeats 1000000 in
theorem rstep_Q_yes0 (F : Array Value) (s t kind typ : Int) (w : World) (h : Hid (Fa F kind typ)) (ht : 0 ≤ t ∧ t ≤ 255) (hr : Hid (rt 3 s t = true)) (ha : (kind != 3) = false) (hb : (typ != t) = false) :
    Calls Tryd.prog 22 #[fl 3 s t, .int .u8 0, .agg F] w fun e w' => e = .returned (.tuple #[fl 3 s t, .bool true]) ∧ Below w.heap.size w w' := by
  have f1 := h.out.ckind
  have f2 := h.out.ctype
  have f3 := h.out.bt.1
  have f4 := h.out.bt.2
  unfold fl
  go_enter Tryd.func22, Tryd.ntmps22
  go_wp2_with fail
  refine (rright_any 3 s t _ ht.1 ht.2).mono ?_
  rintro e w1 ⟨he, rfl⟩
  rw [hr.out] at he
  subst he
  go_wp2_with fail
  go_quiet (fail)
  go_wp2_with fail
  refine bodyPost_ret (v := .tuple #[fl 3 s t, .bool true]) ?_ rfl ⟨rfl, by (repeat' (first | with_reducible assumption | exact Below.refl _ _ | refine below_drewN ?_ _ | refine Below.setCell ?_ (by first | omega | (simp; done) | (simp; omega)) _ | refine Below.alloc ?_ (by first | omega | (simp; done) | (simp; omega)) _))⟩
  simp [results, Tryd.results22, go_sem, fl]

theorem ranswer_is (t a : Int) (w : World) (ht : 0 ≤ t) (ht1 : t ≤ 255) (h : rans t = a) : Calls Tryd.prog 20 #[.int .u8 t] w fun e w' => e = .returned (.int .i64 a) ∧ w' = w :=
  (ranswer_any t w ht ht1).mono fun _ _ ⟨x, y⟩ => ⟨h ▸ x, y.symm⟩

set_option maxHeartbeats 1000000 in
theorem rstep_Q_no1a (F : Array Value) (s t kind typ : Int) (w : World) (h : Hid (Fa F kind typ)) (ht : 0 ≤ t ∧ t ≤ 255) (hr : Hid (rt 3 s t = true)) (ha : (kind != 4) = true) :
    Calls Tryd.prog 22 #[fl 3 s t, .int .u8 1, .agg F] w fun e w' => e = .returned (.tuple #[fl 0 0 0, .bool false]) ∧ Below w.heap.size w w' := by
  have f1 := h.out.ckind
  have f2 := h.out.ctype
  have f3 := h.out.bt.1
  have f4 := h.out.bt.2
  unfold fl
  go_enter Tryd.func22, Tryd.ntmps22
  go_wp2_with fail
  refine (rright_any 3 s t _ ht.1 ht.2).mono ?_
  rintro e w1 ⟨he, rfl⟩
  rw [hr.out] at he
  subst he
  go_wp2_with fail
  go_quiet (fail)
  go_wp2_with fail
  refine bodyPost_ret (v := .tuple #[fl 0 0 0, .bool false]) ?_ rfl ⟨rfl, by (repeat' (first | with_reducible assumption | exact Below.refl _ _ | refine below_drewN ?_ _ | refine Below.setCell ?_ (by first | omega | (simp; done) | (simp; omega)) _ | refine Below.alloc ?_ (by first | omega | (simp; done) | (simp; omega)) _))⟩
  simp [results, Tryd.results22, go_sem, fl]

set_option maxHeartbeats 1000000 in
theorem rstep_Q_no1b (F : Array Value) (a s t kind typ : Int) (w : World) (h : Hid (Fa F kind typ)) (ht : 0 ≤ t ∧ t ≤ 255) (hr : Hid (rt 3 s t = true)) (ha : (kind != 4) = false) (hra : Hid (rans t = a)) (hb : (typ != a) = true) :
    Calls Tryd.prog 22 #[fl 3 s t, .int .u8 1, .agg F] w fun e w' => e = .returned (.tuple #[fl 0 0 0, .bool false]) ∧ Below w.heap.size w w' := by
  have f1 := h.out.ckind
  have f2 := h.out.ctype
  have f3 := h.out.bt.1
  have f4 := h.out.bt.2
  unfold fl
  go_enter Tryd.func22, Tryd.ntmps22
  go_wp2_with fail
  refine (rright_any 3 s t _ ht.1 ht.2).mono ?_
  rintro e w1 ⟨he, rfl⟩
  rw [hr.out] at he
  subst he
  go_wp2_with fail
  go_quiet (((go_at_call 20; exact Calls.quiet_of_same (ranswer_is t a _ ht.1 ht.2 hra.out))))
  go_wp2_with fail
  refine bodyPost_ret (v := .tuple #[fl 0 0 0, .bool false]) ?_ rfl ⟨rfl, by (repeat' (first | with_reducible assumption | exact Below.refl _ _ | refine below_drewN ?_ _ | refine Below.setCell ?_ (by first | omega | (simp; done) | (simp; omega)) _ | refine Below.alloc ?_ (by first | omega | (simp; done) | (simp; omega)) _))⟩
  simp [results, Tryd.results22, go_sem, fl]

set_option maxHeartbeats 1000000 in
theorem rstep_Q_yes1 (F : Array Value) (a s t kind typ : Int) (w : World) (h : Hid (Fa F kind typ)) (ht : 0 ≤ t ∧ t ≤ 255) (hr : Hid (rt 3 s t = true)) (ha : (kind != 4) = false) (hra : Hid (rans t = a)) (hb : (typ != a) = false) :
    Calls Tryd.prog 22 #[fl 3 s t, .int .u8 1, .agg F] w fun e w' => e = .returned (.tuple #[fl 3 2 t, .bool true]) ∧ Below w.heap.size w w' := by
  have f1 := h.out.ckind
  have f2 := h.out.ctype
  have f3 := h.out.bt.1
  have f4 := h.out.bt.2
  unfold fl
  go_enter Tryd.func22, Tryd.ntmps22
  go_wp2_with fail
  refine (rright_any 3 s t _ ht.1 ht.2).mono ?_
  rintro e w1 ⟨he, rfl⟩
  rw [hr.out] at he
  subst he
  go_wp2_with fail
  go_quiet (((go_at_call 20; exact Calls.quiet_of_same (ranswer_is t a _ ht.1 ht.2 hra.out))))
  generalize hV : World.drewN _ _ = V
  have hb0 : Below w.heap.size w V := by subst hV; (repeat' (first | with_reducible assumption | exact Below.refl _ _ | refine below_drewN ?_ _ | refine Below.setCell ?_ (by first | omega | (simp; done) | (simp; omega)) _ | refine Below.alloc ?_ (by first | omega | (simp; done) | (simp; omega)) _))
  have x0 : V.cell? ⟨w.heap.size, 0, none⟩ = some (.int .u8 3) := by subst hV; simp [go_sem]
  have xf0 : V.frozen? ⟨w.heap.size, 0, none⟩ = false := by subst hV; simp [go_sem]
  have x1 : V.cell? ⟨w.heap.size, 1, none⟩ = some (.int .u8 s) := by subst hV; simp [go_sem]
  have xf1 : V.frozen? ⟨w.heap.size, 1, none⟩ = false := by subst hV; simp [go_sem]
  have x2 : V.cell? ⟨w.heap.size, 2, none⟩ = some (.int .u8 t) := by subst hV; simp [go_sem]
  have xf2 : V.frozen? ⟨w.heap.size, 2, none⟩ = false := by subst hV; simp [go_sem]
  have r0 : V.cell? ⟨w.heap.size + 1 + 1, 0, none⟩ = some (.int .u8 0) := by subst hV; simp [go_sem]
  have rf0 : V.frozen? ⟨w.heap.size + 1 + 1, 0, none⟩ = false := by subst hV; simp [go_sem]
  have r1 : V.cell? ⟨w.heap.size + 1 + 1, 1, none⟩ = some (.int .u8 0) := by subst hV; simp [go_sem]
  have rf1 : V.frozen? ⟨w.heap.size + 1 + 1, 1, none⟩ = false := by subst hV; simp [go_sem]
  have r2 : V.cell? ⟨w.heap.size + 1 + 1, 2, none⟩ = some (.int .u8 0) := by subst hV; simp [go_sem]
  have rf2 : V.frozen? ⟨w.heap.size + 1 + 1, 2, none⟩ = false := by subst hV; simp [go_sem]
  clear hV
  go_wp2_with fail
  refine bodyPost_ret (v := .tuple #[fl 3 2 t, .bool true]) ?_ rfl ⟨rfl, by (repeat' (first | with_reducible assumption | exact Below.refl _ _ | refine below_drewN ?_ _ | refine Below.setCell ?_ (by first | omega | (simp; done) | (simp; omega)) _ | refine Below.alloc ?_ (by first | omega | (simp; done) | (simp; omega)) _))⟩
  simp [results, Tryd.results22, go_sem, fl, x0, x1, x2, r0, r1, r2]

theorem rt_isq {s t : Int} (h : rt 3 s t = true) : isq t = true := by
  simp [rt, opens] at h
  exact h.1

/-- baffleref22.Step, whatever the flow, direction and packet. -/
theorem rstep_any (F : Array Value) (k s t d kind typ : Int) (w : World) (h : Fa F kind typ) (ht : 0 ≤ t ∧ t ≤ 255) (hd : 0 ≤ d) :
    Calls Tryd.prog 22 #[fl k s t, .int .u8 d, .agg F] w fun e w' => e = .returned (.tuple #[flv (stF k s t d kind typ), .bool (alw k s t d kind typ)]) ∧ Below w.heap.size w w' := by
  cases hr : rt k s t
  · have e : alw k s t d kind typ = false := by simp [alw, hr]
    rw [stF, e]
    exact rstep_wrong F k s t d kind typ w h ht hr
  · by_cases hd1 : 1 < d
    · have e : alw k s t d kind typ = false := by simp [alw, hr]; intro h; omega
      rw [stF, e]
      exact rstep_dir F k s t d kind typ w h ht hr hd1
    · rcases rt_kind hr with rfl | rfl
      · have e : alw 2 s t d kind typ = (kind == 2) := by simp [alw, hr]; omega
        rw [stF, e]
        obtain rfl | rfl : d = 0 ∨ d = 1 := by omega
        · cases ha : kind == 2
          · exact rstep_U_no0 F s t kind typ w h ht hr (by simpa using ha)
          · exact rstep_U_yes0 F s t kind typ w h ht hr (by simpa using ha)
        · cases ha : kind == 2
          · exact rstep_U_no1 F s t kind typ w h ht hr (by simpa using ha)
          · exact rstep_U_yes1 F s t kind typ w h ht hr (by simpa using ha)
      · have e : alw 3 s t d kind typ = allowsQ t d kind typ := by simp [alw, hr]; omega
        rw [stF, e]
        obtain rfl | rfl : d = 0 ∨ d = 1 := by omega
        · have e2 : allowsQ t 0 kind typ = (kind == 3 && typ == t) := by simp [allowsQ]
          rw [e2]
          cases ha : kind == 3
          · exact rstep_Q_no0a F s t kind typ w h ht hr (by simpa using ha)
          · cases hb : typ == t
            · exact rstep_Q_no0b F s t kind typ w h ht hr (by simpa using ha) (by simpa using hb)
            · exact rstep_Q_yes0 F s t kind typ w h ht hr (by simpa using ha) (by simpa using hb)
        · have e2 : allowsQ t 1 kind typ = (kind == 4 && typ == ans t) := by simp [allowsQ]
          have e3 : rans t = ans t := by simp [rans, rt_isq hr]
          rw [e2]
          cases ha : kind == 4
          · exact rstep_Q_no1a F s t kind typ w h ht hr (by simpa using ha)
          · cases hb : typ == ans t
            · exact rstep_Q_no1b F (ans t) s t kind typ w h ht hr (by simpa using ha) e3 (by simpa using hb)
            · exact rstep_Q_yes1 F (ans t) s t kind typ w h ht hr (by simpa using ha) e3 (by simpa using hb)

end Go.Proofs.YtjmcpgagbjmfgaaDoor
