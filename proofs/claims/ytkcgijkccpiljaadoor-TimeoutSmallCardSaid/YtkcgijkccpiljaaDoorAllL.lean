/-
  The walk of TimeoutAll: the scaled timeouts of a whole base are each class's own.
-/
import Derived.Test.YtkcgijkccpiljaaDoorWrongL
namespace Go.Proofs.YtkcgijkccpiljaaDoor
open Go.RowKit
set_option linter.unusedVariables false
set_option linter.unusedSimpArgs false

set_option maxRecDepth 100000 in
theorem idx41 (b : Nat → Int) (k : Nat) (hk : k < 9) : ∀ w, (Instr.index 41 (.agg #[.int .i64 (b 0), .int .i64 (b 1), .int .i64 (b 2), .int .i64 (b 3), .int .i64 (b 4), .int .i64 (b 5), .int .i64 (b 6), .int .i64 (b 7), .int .i64 (b 8)]) (.int .i64 k)).run Tryd.prog w = .ok (.int .i64 (b k)) w := by
  rcases nine_cases hk with rfl | rfl | rfl | rfl | rfl | rfl | rfl | rfl | rfl <;> exact fun _ => by kernel_rfl
theorem nine_get (f : Nat → Int) (k : Nat) (hk : k < 9) : (nine f).toList[k]? = some (.int .i64 (f k)) := by
  rcases nine_cases hk with rfl | rfl | rfl | rfl | rfl | rfl | rfl | rfl | rfl <;> rfl
theorem nine_range {w : World} {n : Nat} {f z : Nat → Int} (h : Nine w n (part f z 9)) : w.rangeAt n 0 (nine f).toList := fun j v hv => by
  by_cases hj : j < 9
  · rw [nine_get f j hj] at hv
    cases hv
    have := h j hj
    rw [part, if_pos hj] at this
    rw [Nat.zero_add]
    exact this
  · rw [List.getElem?_eq_none (by simp; omega)] at hv
    cases hv
theorem nine_neq (v : Nat → Int) (W : World) : (binOp .neq 42 (.agg (nine v)) (.agg (nine v))).run Tryd.prog W = .ok (.bool false) W := by
  have h := nine_eql v W
  rw [run_eql_struct] at h
  rw [run_neq_struct]
  generalize (Op.equalIn 10000 42 (.agg (nine v)) (.agg (nine v))).run Tryd.prog W = X at h ⊢
  cases X <;> simp_all [Result.andThen]
structure AlR (w1 : World) (NB k : Nat) (f g : Nat → Int) (s e l : Int) (D : Nat → Prop) (v17 v82 v83 v84 v85 v86 v87 v88 v89 v90 : Value) (w' : World) : Prop where
  b : Below w1.heap.size w1 w'
  e0 : D 0 → v83 = .int .u8 k
  e1 : D 1 → v84 = .pointer (some ⟨NB, k, none⟩)
  e2 : D 2 → v85 = .int .i64 (f k)
  e3 : D 3 → v86 = .agg #[.int .i64 s, .int .i64 e]
  e4 : D 4 → v87 = .int .i64 l
  e5 : D 5 → v88 = .tuple #[.int .i64 (g k), .int .i64 0]
  e6 : D 6 → v82 = .tuple #[.int .i64 (g k), .int .i64 0]
  e7 : D 7 → v89 = .int .i64 (g k)
  e8 : D 8 → v90 = .int .i64 0
  e9 : D 9 → v17 = .int .i64 (g k)
theorem AlR.s0 {w1 : World} {NB k : Nat} {f g : Nat → Int} {s e l : Int} {D : Nat → Prop} {v17 v82 v83 v84 v85 v86 v87 v88 v89 v90 : Value} {w' w'' : World} (h : AlR w1 NB k f g s e l D v17 v82 v83 v84 v85 v86 v87 v88 v89 v90 w') (hb : Below w'.heap.size w' w'') : AlR w1 NB k f g s e l (fun j => D j ∨ j = 0) v17 v82 (.int .u8 k) v84 v85 v86 v87 v88 v89 v90 w'' :=
  ⟨bthen h.b hb, fun _ => rfl, or_keep h.e1 (by decide), or_keep h.e2 (by decide), or_keep h.e3 (by decide), or_keep h.e4 (by decide), or_keep h.e5 (by decide), or_keep h.e6 (by decide), or_keep h.e7 (by decide), or_keep h.e8 (by decide), or_keep h.e9 (by decide)⟩
theorem AlR.s1 {w1 : World} {NB k : Nat} {f g : Nat → Int} {s e l : Int} {D : Nat → Prop} {v17 v82 v83 v84 v85 v86 v87 v88 v89 v90 : Value} {w' w'' : World} (h : AlR w1 NB k f g s e l D v17 v82 v83 v84 v85 v86 v87 v88 v89 v90 w') (hb : Below w'.heap.size w' w'') : AlR w1 NB k f g s e l (fun j => D j ∨ j = 1) v17 v82 v83 (.pointer (some ⟨NB, k, none⟩)) v85 v86 v87 v88 v89 v90 w'' :=
  ⟨bthen h.b hb, or_keep h.e0 (by decide), fun _ => rfl, or_keep h.e2 (by decide), or_keep h.e3 (by decide), or_keep h.e4 (by decide), or_keep h.e5 (by decide), or_keep h.e6 (by decide), or_keep h.e7 (by decide), or_keep h.e8 (by decide), or_keep h.e9 (by decide)⟩
theorem AlR.s2 {w1 : World} {NB k : Nat} {f g : Nat → Int} {s e l : Int} {D : Nat → Prop} {v17 v82 v83 v84 v85 v86 v87 v88 v89 v90 : Value} {w' w'' : World} (h : AlR w1 NB k f g s e l D v17 v82 v83 v84 v85 v86 v87 v88 v89 v90 w') (hb : Below w'.heap.size w' w'') : AlR w1 NB k f g s e l (fun j => D j ∨ j = 2) v17 v82 v83 v84 (.int .i64 (f k)) v86 v87 v88 v89 v90 w'' :=
  ⟨bthen h.b hb, or_keep h.e0 (by decide), or_keep h.e1 (by decide), fun _ => rfl, or_keep h.e3 (by decide), or_keep h.e4 (by decide), or_keep h.e5 (by decide), or_keep h.e6 (by decide), or_keep h.e7 (by decide), or_keep h.e8 (by decide), or_keep h.e9 (by decide)⟩
theorem AlR.s3 {w1 : World} {NB k : Nat} {f g : Nat → Int} {s e l : Int} {D : Nat → Prop} {v17 v82 v83 v84 v85 v86 v87 v88 v89 v90 : Value} {w' w'' : World} (h : AlR w1 NB k f g s e l D v17 v82 v83 v84 v85 v86 v87 v88 v89 v90 w') (hb : Below w'.heap.size w' w'') : AlR w1 NB k f g s e l (fun j => D j ∨ j = 3) v17 v82 v83 v84 v85 (.agg #[.int .i64 s, .int .i64 e]) v87 v88 v89 v90 w'' :=
  ⟨bthen h.b hb, or_keep h.e0 (by decide), or_keep h.e1 (by decide), or_keep h.e2 (by decide), fun _ => rfl, or_keep h.e4 (by decide), or_keep h.e5 (by decide), or_keep h.e6 (by decide), or_keep h.e7 (by decide), or_keep h.e8 (by decide), or_keep h.e9 (by decide)⟩
theorem AlR.s4 {w1 : World} {NB k : Nat} {f g : Nat → Int} {s e l : Int} {D : Nat → Prop} {v17 v82 v83 v84 v85 v86 v87 v88 v89 v90 : Value} {w' w'' : World} (h : AlR w1 NB k f g s e l D v17 v82 v83 v84 v85 v86 v87 v88 v89 v90 w') (hb : Below w'.heap.size w' w'') : AlR w1 NB k f g s e l (fun j => D j ∨ j = 4) v17 v82 v83 v84 v85 v86 (.int .i64 l) v88 v89 v90 w'' :=
  ⟨bthen h.b hb, or_keep h.e0 (by decide), or_keep h.e1 (by decide), or_keep h.e2 (by decide), or_keep h.e3 (by decide), fun _ => rfl, or_keep h.e5 (by decide), or_keep h.e6 (by decide), or_keep h.e7 (by decide), or_keep h.e8 (by decide), or_keep h.e9 (by decide)⟩
theorem AlR.s5 {w1 : World} {NB k : Nat} {f g : Nat → Int} {s e l : Int} {D : Nat → Prop} {v17 v82 v83 v84 v85 v86 v87 v88 v89 v90 : Value} {w' w'' : World} (h : AlR w1 NB k f g s e l D v17 v82 v83 v84 v85 v86 v87 v88 v89 v90 w') (hb : Below w'.heap.size w' w'') : AlR w1 NB k f g s e l (fun j => D j ∨ j = 5) v17 v82 v83 v84 v85 v86 v87 (.tuple #[.int .i64 (g k), .int .i64 0]) v89 v90 w'' :=
  ⟨bthen h.b hb, or_keep h.e0 (by decide), or_keep h.e1 (by decide), or_keep h.e2 (by decide), or_keep h.e3 (by decide), or_keep h.e4 (by decide), fun _ => rfl, or_keep h.e6 (by decide), or_keep h.e7 (by decide), or_keep h.e8 (by decide), or_keep h.e9 (by decide)⟩
theorem AlR.s6 {w1 : World} {NB k : Nat} {f g : Nat → Int} {s e l : Int} {D : Nat → Prop} {v17 v82 v83 v84 v85 v86 v87 v88 v89 v90 : Value} {w' w'' : World} (h : AlR w1 NB k f g s e l D v17 v82 v83 v84 v85 v86 v87 v88 v89 v90 w') (hb : Below w'.heap.size w' w'') : AlR w1 NB k f g s e l (fun j => D j ∨ j = 6) v17 (.tuple #[.int .i64 (g k), .int .i64 0]) v83 v84 v85 v86 v87 v88 v89 v90 w'' :=
  ⟨bthen h.b hb, or_keep h.e0 (by decide), or_keep h.e1 (by decide), or_keep h.e2 (by decide), or_keep h.e3 (by decide), or_keep h.e4 (by decide), or_keep h.e5 (by decide), fun _ => rfl, or_keep h.e7 (by decide), or_keep h.e8 (by decide), or_keep h.e9 (by decide)⟩
theorem AlR.s7 {w1 : World} {NB k : Nat} {f g : Nat → Int} {s e l : Int} {D : Nat → Prop} {v17 v82 v83 v84 v85 v86 v87 v88 v89 v90 : Value} {w' w'' : World} (h : AlR w1 NB k f g s e l D v17 v82 v83 v84 v85 v86 v87 v88 v89 v90 w') (hb : Below w'.heap.size w' w'') : AlR w1 NB k f g s e l (fun j => D j ∨ j = 7) v17 v82 v83 v84 v85 v86 v87 v88 (.int .i64 (g k)) v90 w'' :=
  ⟨bthen h.b hb, or_keep h.e0 (by decide), or_keep h.e1 (by decide), or_keep h.e2 (by decide), or_keep h.e3 (by decide), or_keep h.e4 (by decide), or_keep h.e5 (by decide), or_keep h.e6 (by decide), fun _ => rfl, or_keep h.e8 (by decide), or_keep h.e9 (by decide)⟩
theorem AlR.s8 {w1 : World} {NB k : Nat} {f g : Nat → Int} {s e l : Int} {D : Nat → Prop} {v17 v82 v83 v84 v85 v86 v87 v88 v89 v90 : Value} {w' w'' : World} (h : AlR w1 NB k f g s e l D v17 v82 v83 v84 v85 v86 v87 v88 v89 v90 w') (hb : Below w'.heap.size w' w'') : AlR w1 NB k f g s e l (fun j => D j ∨ j = 8) v17 v82 v83 v84 v85 v86 v87 v88 v89 (.int .i64 0) w'' :=
  ⟨bthen h.b hb, or_keep h.e0 (by decide), or_keep h.e1 (by decide), or_keep h.e2 (by decide), or_keep h.e3 (by decide), or_keep h.e4 (by decide), or_keep h.e5 (by decide), or_keep h.e6 (by decide), or_keep h.e7 (by decide), fun _ => rfl, or_keep h.e9 (by decide)⟩
theorem AlR.s9 {w1 : World} {NB k : Nat} {f g : Nat → Int} {s e l : Int} {D : Nat → Prop} {v17 v82 v83 v84 v85 v86 v87 v88 v89 v90 : Value} {w' w'' : World} (h : AlR w1 NB k f g s e l D v17 v82 v83 v84 v85 v86 v87 v88 v89 v90 w') (hb : Below w'.heap.size w' w'') : AlR w1 NB k f g s e l (fun j => D j ∨ j = 9) (.int .i64 (g k)) v82 v83 v84 v85 v86 v87 v88 v89 v90 w'' :=
  ⟨bthen h.b hb, or_keep h.e0 (by decide), or_keep h.e1 (by decide), or_keep h.e2 (by decide), or_keep h.e3 (by decide), or_keep h.e4 (by decide), or_keep h.e5 (by decide), or_keep h.e6 (by decide), or_keep h.e7 (by decide), or_keep h.e8 (by decide), fun _ => rfl⟩
theorem AlR.zero (w1 : World) (NB k : Nat) (f g : Nat → Int) (s e l : Int) (v17 v82 v83 v84 v85 v86 v87 v88 v89 v90 : Value) : AlR w1 NB k f g s e l (fun _ => False) v17 v82 v83 v84 v85 v86 v87 v88 v89 v90 w1.drew :=
  ⟨(Below.refl _ _).drew, fun h => h.elim, fun h => h.elim, fun h => h.elim, fun h => h.elim, fun h => h.elim, fun h => h.elim, fun h => h.elim, fun h => h.elim, fun h => h.elim, fun h => h.elim⟩

set_option maxRecDepth 100000 in
set_option maxHeartbeats 8000000 in
theorem allL_core (n1 n2 n3 lv t s e l : Int) (b x f g : Nat → Int) (FA GA : Array Value) (R : Bool) (w : World) (HT : Hid (Tab w)) (ht : 1 ≤ t ∧ t ≤ 16777215)
    (hx : Hid (∀ k, k < 9 → 0 ≤ x k ∧ x k ≤ 16777214 ∧ f k = 1 + x k)) (zF : Hid (FA.size = 9)) (zG : Hid (GA.size = 9)) (oG : Hid (GA.all (·.oneCell') = true))
    (hRF : Hid (∀ W n, Nine W n (part f (fun _ => 0) 9) → W.rangeAt n 0 FA.toList)) (hFk : Hid (∀ k, k < 9 → FA.toList[k]? = some (.int .i64 (f k)))) (hGk : Hid (∀ k, k < 9 → GA.toList[k]? = some (.int .i64 (g k))))
    (hls : decide (l ≤ s) = R) (hN : R = true → Hid (∀ W, (binOp .neq 42 (.agg GA) (.agg FA)).run Tryd.prog W = .ok (.bool false) W))
    (HM : Hid (∀ W, Calls Tryd.prog 15 #[.agg #[.int .i64 n1, .int .i64 n2, .int .i64 n3]] W fun r w' => r = .returned (.tuple #[.int .i64 t, .agg #[.int .i64 s, .int .i64 e]]) ∧ Below W.heap.size W w'))
    (HL : Hid (∀ W, Calls Tryd.prog 16 #[.int .i64 lv, .int .i64 e] W fun r w' => r = .returned (.int .i64 l) ∧ W = w'))
    (HX : Hid (∀ k, k < 9 → ∀ W, Calls Tryd.prog 16 #[.int .i64 (b k), .int .i64 16777215] W fun r w' => r = .returned (.int .i64 (x k)) ∧ W = w'))
    (HA : Hid (∀ W, Calls Tryd.prog 23 #[.agg FA, .agg #[.int .i64 s, .int .i64 e], .int .i64 l] W fun r w' => r = .returned (.tuple #[.agg GA, .int .i64 0]) ∧ Below W.heap.size W w'))
    (HR1 : Hid (∀ W, Calls Tryd.prog 24 #[.agg FA] W fun r w' => r = .returned (.bool true) ∧ Below W.heap.size W w'))
    (HR2 : Hid (∀ W, Calls Tryd.prog 24 #[.agg GA] W fun r w' => r = .returned (.bool true) ∧ Below W.heap.size W w'))
    (HO : Hid (∀ k : Nat, k < 9 → ∀ W, Calls Tryd.prog 25 #[.agg FA, .int .u8 k, .agg #[.int .i64 s, .int .i64 e], .int .i64 l] W fun r w' => r = .returned (.tuple #[.int .i64 (g k), .int .i64 0]) ∧ Below W.heap.size W w'))
    (HS : Hid (∀ k : Nat, k < 9 → ∀ W, Calls Tryd.prog 17 #[.int .i64 (f k), .agg #[.int .i64 s, .int .i64 e], .int .i64 l] W fun r w' => r = .returned (.tuple #[.int .i64 (g k), .int .i64 0]) ∧ Below W.heap.size W w')) :
    Calls Tryd.prog 10 #[.agg #[.int .i64 (b 0), .int .i64 (b 1), .int .i64 (b 2), .int .i64 (b 3), .int .i64 (b 4), .int .i64 (b 5), .int .i64 (b 6), .int .i64 (b 7), .int .i64 (b 8)], .agg #[.int .i64 n1, .int .i64 n2, .int .i64 n3], .int .i64 lv] w fun r w' => r = .returned (.bool true) ∧ Below w.heap.size w w' := by
  have IF2 : Hid ((Tryd.prog.info? 42).map (·.size) = some FA.toList.length) := by rw [Array.length_toList, zF.out]; exact info42
  have IG2 : Hid ((Tryd.prog.info? 42).map (·.size) = some GA.toList.length) := by rw [Array.length_toList, zG.out]; exact info42
  have JG2 : Hid ((Tryd.prog.info? 42).map (·.size) = some GA.size) := by rw [zG.out]; exact info42
  have hix := Lib.hid (idx41 b)
  go_enter Tryd.func10, Tryd.ntmps10
  have d0 : Below w.heap.size w w := Below.refl _ _
  have k0 : w.heap.size ≤ w.heap.size := Nat.le_refl _
  go_wp2_with fail
  refine (awake_any _ (HT.out.below (by (repeat' (first | exact Below.refl _ _ | refine Below.setCell ?_ (by first | omega | (simp; done) | (simp; omega)) _ | refine Below.alloc ?_ (by first | omega | (simp; done) | (simp; omega)) _))))).mono ?_
  rintro e w1 ⟨rfl, hb⟩
  have b1 : Below w.heap.size w w1 := bthen (by (repeat' (first | exact Below.refl _ _ | refine Below.setCell ?_ (by first | omega | (simp; done) | (simp; omega)) _ | refine Below.alloc ?_ (by first | omega | (simp; done) | (simp; omega)) _))) hb
  have d1 : Below w.heap.size w w1 := bthen d0 b1
  have k1 : w.heap.size ≤ w1.heap.size := d1.size
  have a_1 : w1.rangeAt (w.heap.size) 0 (#[.int .i64 (b 0), .int .i64 (b 1), .int .i64 (b 2), .int .i64 (b 3), .int .i64 (b 4), .int .i64 (b 5), .int .i64 (b 6), .int .i64 (b 7), .int .i64 (b 8)]).toList := range_below hb (by first | (simp; done) | (simp; omega)) (by (repeat (first | with_reducible assumption | (refine range_new' _ _ _ _ ?_; first | rfl | (simp; done)) | refine World.rangeAt_alloc ?_ _)))
  have za_1 : w.heap.size < w1.heap.size := by have := hb.size; simp at this; omega
  have p0_1 : w1.cell? ⟨w.heap.size + 1, 0, none⟩ = some (.int .i64 n1) := (hb.cell (p := ⟨w.heap.size + 1, 0, none⟩) (by first | (simp; done) | (simp; omega))).trans (by simp [go_sem])
  have p1_1 : w1.cell? ⟨w.heap.size + 1, 1, none⟩ = some (.int .i64 n2) := (hb.cell (p := ⟨w.heap.size + 1, 1, none⟩) (by first | (simp; done) | (simp; omega))).trans (by simp [go_sem])
  have p2_1 : w1.cell? ⟨w.heap.size + 1, 2, none⟩ = some (.int .i64 n3) := (hb.cell (p := ⟨w.heap.size + 1, 2, none⟩) (by first | (simp; done) | (simp; omega))).trans (by simp [go_sem])
  have zp_1 : w.heap.size + 1 < w1.heap.size := by have := hb.size; simp at this; omega
  clear hb b1 d0 k0
  as_aux_lemma =>
    go_wp2_with fail
    refine (HM.out _).mono ?_
    rintro e w2 ⟨rfl, hb⟩
    have b2 : Below w1.heap.size w1 w2 := bthen (by (repeat' (first | exact Below.refl _ _ | refine Below.setCell ?_ (by first | omega | (simp; done) | (simp; omega)) _ | refine Below.alloc ?_ (by first | omega | (simp; done) | (simp; omega)) _))) hb
    have d2 : Below w.heap.size w w2 := bthen d1 b2
    have k2 : w.heap.size ≤ w2.heap.size := d2.size
    have a_2 : w2.rangeAt (w.heap.size) 0 (#[.int .i64 (b 0), .int .i64 (b 1), .int .i64 (b 2), .int .i64 (b 3), .int .i64 (b 4), .int .i64 (b 5), .int .i64 (b 6), .int .i64 (b 7), .int .i64 (b 8)]).toList := range_below b2 (by omega) a_1
    have za_2 : w.heap.size < w2.heap.size := Nat.lt_of_lt_of_le za_1 b2.size
    have p0_2 : w2.cell? ⟨w.heap.size + 1, 0, none⟩ = some (.int .i64 n1) := (b2.cell (p := ⟨w.heap.size + 1, 0, none⟩) (by show w.heap.size + 1 < w1.heap.size; omega)).trans p0_1
    have p1_2 : w2.cell? ⟨w.heap.size + 1, 1, none⟩ = some (.int .i64 n2) := (b2.cell (p := ⟨w.heap.size + 1, 1, none⟩) (by show w.heap.size + 1 < w1.heap.size; omega)).trans p1_1
    have p2_2 : w2.cell? ⟨w.heap.size + 1, 2, none⟩ = some (.int .i64 n3) := (b2.cell (p := ⟨w.heap.size + 1, 2, none⟩) (by show w.heap.size + 1 < w1.heap.size; omega)).trans p2_1
    have zp_2 : w.heap.size + 1 < w2.heap.size := Nat.lt_of_lt_of_le zp_1 b2.size
    clear hb b2 d1 k1 a_1 za_1 p0_1 p1_1 p2_1 zp_1
    as_aux_lemma =>
      clear p0_2 p1_2 p2_2 zp_2
      go_wp2_with fail
      refine (HL.out _).mono ?_
      rintro r u ⟨rfl, rfl⟩
      have n0 : w2.cell? ⟨w.heap.size, 0, none⟩ = some (.int .i64 (b 0)) := by have := a_2 0 _ rfl; simpa using this
      have n1 : w2.cell? ⟨w.heap.size, 1, none⟩ = some (.int .i64 (b 1)) := by have := a_2 1 _ rfl; simpa using this
      have n2 : w2.cell? ⟨w.heap.size, 2, none⟩ = some (.int .i64 (b 2)) := by have := a_2 2 _ rfl; simpa using this
      have n3 : w2.cell? ⟨w.heap.size, 3, none⟩ = some (.int .i64 (b 3)) := by have := a_2 3 _ rfl; simpa using this
      have n4 : w2.cell? ⟨w.heap.size, 4, none⟩ = some (.int .i64 (b 4)) := by have := a_2 4 _ rfl; simpa using this
      have n5 : w2.cell? ⟨w.heap.size, 5, none⟩ = some (.int .i64 (b 5)) := by have := a_2 5 _ rfl; simpa using this
      have n6 : w2.cell? ⟨w.heap.size, 6, none⟩ = some (.int .i64 (b 6)) := by have := a_2 6 _ rfl; simpa using this
      have n7 : w2.cell? ⟨w.heap.size, 7, none⟩ = some (.int .i64 (b 7)) := by have := a_2 7 _ rfl; simpa using this
      have n8 : w2.cell? ⟨w.heap.size, 8, none⟩ = some (.int .i64 (b 8)) := by have := a_2 8 _ rfl; simpa using this
      go_wp2_with fail
      clear n0 n1 n2 n3 n4 n5 n6 n7 n8
      have A1 : Nine ((w2.alloc (.cells #[.int .i64 s, .int .i64 e] 23)).alloc (.cells #[.int .i64 0, .int .i64 0, .int .i64 0, .int .i64 0, .int .i64 0, .int .i64 0, .int .i64 0, .int .i64 0, .int .i64 0] 42)) (w2.heap.size + 1) (part f (fun _ => 0) 0) := fun i hi => by
        have := Nine.new (w2.alloc (.cells #[.int .i64 s, .int .i64 e] 23)) (fun _ => 0) 42 (n := w2.heap.size + 1) (by simp) i hi
        rw [part, if_neg (by omega)]
        exact this
      have A2 : Free9 ((w2.alloc (.cells #[.int .i64 s, .int .i64 e] 23)).alloc (.cells #[.int .i64 0, .int .i64 0, .int .i64 0, .int .i64 0, .int .i64 0, .int .i64 0, .int .i64 0, .int .i64 0, .int .i64 0] 42)) (w2.heap.size + 1) := Free9.new _ _ 42 (by simp)
      have HA1 := Lib.hid A1
      have HA2 := Lib.hid A2
      clear A1 A2
      go_loopw [31] (fun i wr => ∃ k : Nat, k ≤ 9 ∧ i = .int .i64 k ∧ Hid (Nine wr (w2.heap.size + 1) (part f (fun _ => 0) k)) ∧ Hid (Free9 wr (w2.heap.size + 1)) ∧ wr.cell? ⟨w2.heap.size, 0, none⟩ = some (.int .i64 s) ∧ wr.cell? ⟨w2.heap.size, 1, none⟩ = some (.int .i64 e) ∧ Below w.heap.size w wr) (fun i _ => 9 - (intOf i).toNat)
      case atStart => exact ⟨0, by omega, rfl, HA1, HA2, by simp [go_sem], by simp [go_sem], by (repeat' (first | with_reducible exact d2 | refine Below.alloc ?_ (by first | omega | (simp; done) | (simp; omega)) _))⟩
      case round =>
        clear HA1 HA2
        obtain ⟨k, hk, rfl, P1, P2, c0, c1, hb2⟩ := hrel
        have hz := cell_lt (P1.out 0 (by decide))
        simp only at hz
        by_cases hlt : k < 9
        · have HC := Lib.hid (HX.out k hlt)
          obtain ⟨x0, x1, x2⟩ := hx.out k hlt
          have f0 := P2.out k hlt
          have p0 := P1.out k hlt
          have ik := hix.out k hlt
          have hkd : decide ((k : Int) < 9) = true := by simp; omega
          have kk9 : (k : Int) < 9 := by omega
          have kk0 : (0 : Int) ≤ k := by omega
          have N1 : Hid (Nine (wr.setCell ⟨w2.heap.size + 1, k, none⟩ (.int .i64 (1 + x k))) (w2.heap.size + 1) (part f (fun _ => 0) (k + 1))) := by rw [← x2]; exact P1.out.set hlt
          have N2 := Lib.hid (P2.out.set ⟨w2.heap.size + 1, k, none⟩ (.int .i64 (1 + x k)))
          clear x2
          generalize x k = y at *
          go_wp2_with fail
          refine (HC.out _).mono ?_
          rintro r w' ⟨rfl, rfl⟩
          go_wp2_with fail
          go_roundw
          case rel =>
            refine ⟨k + 1, by omega, by go_num, N1, N2, ?_, ?_, hb2.setCell (by show _ ≤ w2.heap.size + 1; omega) _⟩
            · exact (World.cell?_setCell_other _ _ _ _ (fun e => by injection e; omega)).trans c0
            · exact (World.cell?_setCell_other _ _ _ _ (fun e => by injection e; omega)).trans c1
          case measure => simp [intOf]; omega
        · obtain rfl : k = 9 := by omega
          have RF := hRF.out _ _ P1.out
          clear P1 P2 hk
          have k3 := hb2.size
          have hd9 : decide ((9 : Int) < 9) = false := rfl
          have d3 := hb2
          have fa_3 := RF
          have zfa_3 := hz
          have c0_3 := c0
          have c1_3 := c1
          have zc_3 : w2.heap.size < wr.heap.size := by omega
          clear RF hz c0 c1 hd9
          go_wp2_with (first | (refine wpList_load_wide 42 (.tmp 9) rfl (by rfl) _ _ rfl FA _ Tryd.underlying42 rfl IF2.out ?_ ?_; · (repeat (first | with_reducible exact fa_3 | refine World.rangeAt_alloc ?_ _))))
          refine (HA.out _).mono ?_
          rintro e w4 ⟨rfl, hb⟩
          have b4 : Below wr.heap.size wr w4 := bthen (by (repeat' (first | exact Below.refl _ _ | refine Below.setCell ?_ (by first | omega | (simp; done) | (simp; omega)) _ | refine Below.alloc ?_ (by first | omega | (simp; done) | (simp; omega)) _))) hb
          have d4 : Below w.heap.size w w4 := bthen d3 b4
          have k4 : w.heap.size ≤ w4.heap.size := d4.size
          have fa_4 : w4.rangeAt (w2.heap.size + 1) 0 (FA).toList := range_below b4 (by omega) fa_3
          have zfa_4 : w2.heap.size + 1 < w4.heap.size := Nat.lt_of_lt_of_le zfa_3 b4.size
          have c0_4 : w4.cell? ⟨w2.heap.size, 0, none⟩ = some (.int .i64 s) := (b4.cell (p := ⟨w2.heap.size, 0, none⟩) (by show w2.heap.size < wr.heap.size; omega)).trans c0_3
          have c1_4 : w4.cell? ⟨w2.heap.size, 1, none⟩ = some (.int .i64 e) := (b4.cell (p := ⟨w2.heap.size, 1, none⟩) (by show w2.heap.size < wr.heap.size; omega)).trans c1_3
          have zc_4 : w2.heap.size < w4.heap.size := Nat.lt_of_lt_of_le zc_3 b4.size
          clear hb b4 d3 k3 fa_3 zfa_3 c0_3 c1_3 zc_3
          go_wp2_with (first | (refine wpList_load_wide 42 (.tmp 9) rfl (by rfl) _ _ rfl FA _ Tryd.underlying42 rfl IF2.out ?_ ?_; · (repeat (first | with_reducible exact fa_5 | refine World.rangeAt_alloc ?_ _))) | (refine wpList_store_wide 42 (.tmp 12) (.tmp 46) rfl rfl w4.heap.size 0 GA rfl rfl w.heap.size w JG2.out oG.out (d4.alloc k4 _) k4 (there_new _ _ _ _ _ rfl ?_) ?_; (· (rw [zG.out]; rfl)); intro v1 d5 q1 ga_5 x1' j1 j2; clear j1 j2; have fa_5 := x1' _ _ _ (by omega) (World.rangeAt_alloc fa_4 _); have zga_5 : w4.heap.size < v1.heap.size := (by rw [q1]; simp); have k5 : w.heap.size ≤ v1.heap.size := d5.size; have zfa_5 : w2.heap.size + 1 < v1.heap.size := (by omega); have zc_5 : w2.heap.size < v1.heap.size := (by omega); have cc := x1' (w2.heap.size) 0 [.int .i64 s, .int .i64 e] (by omega) (World.rangeAt_alloc (two_at c0_4 c1_4) _); have c0_5 := cc 0 _ rfl; have c1_5 := cc 1 _ rfl; simp only [Nat.zero_add] at c0_5 c1_5; clear cc x1' q1 fa_4 c0_4 c1_4 d4 k4))
          clear zfa_4 zc_4
          refine (HR1.out _).mono ?_
          rintro e w6 ⟨rfl, hb⟩
          have b6 : Below v1.heap.size v1 w6 := bthen (by (repeat' (first | exact Below.refl _ _ | refine Below.setCell ?_ (by first | omega | (simp; done) | (simp; omega)) _ | refine Below.alloc ?_ (by first | omega | (simp; done) | (simp; omega)) _))) hb
          have d6 : Below w.heap.size w w6 := bthen d5 b6
          have k6 : w.heap.size ≤ w6.heap.size := d6.size
          have fa_6 : w6.rangeAt (w2.heap.size + 1) 0 (FA).toList := range_below b6 (by omega) fa_5
          have zfa_6 : w2.heap.size + 1 < w6.heap.size := Nat.lt_of_lt_of_le zfa_5 b6.size
          have ga_6 : w6.rangeAt (w4.heap.size) 0 (GA).toList := range_below b6 (by omega) ga_5
          have zga_6 : w4.heap.size < w6.heap.size := Nat.lt_of_lt_of_le zga_5 b6.size
          have c0_6 : w6.cell? ⟨w2.heap.size, 0, none⟩ = some (.int .i64 s) := (b6.cell (p := ⟨w2.heap.size, 0, none⟩) (by show w2.heap.size < v1.heap.size; omega)).trans c0_5
          have c1_6 : w6.cell? ⟨w2.heap.size, 1, none⟩ = some (.int .i64 e) := (b6.cell (p := ⟨w2.heap.size, 1, none⟩) (by show w2.heap.size < v1.heap.size; omega)).trans c1_5
          have zc_6 : w2.heap.size < w6.heap.size := Nat.lt_of_lt_of_le zc_5 b6.size
          clear hb b6 d5 k5 fa_5 zfa_5 ga_5 zga_5 c0_5 c1_5 zc_5
          go_wp2_with (first | (refine wpList_load_wide 42 (.tmp 12) rfl (by rfl) _ _ rfl GA _ Tryd.underlying42 rfl IG2.out ?_ ?_; · (repeat (first | with_reducible exact ga_6 | refine World.rangeAt_alloc ?_ _))))
          refine (HR2.out _).mono ?_
          rintro e w7 ⟨rfl, hb⟩
          have b7 : Below w6.heap.size w6 w7 := bthen (by (repeat' (first | exact Below.refl _ _ | refine Below.setCell ?_ (by first | omega | (simp; done) | (simp; omega)) _ | refine Below.alloc ?_ (by first | omega | (simp; done) | (simp; omega)) _))) hb
          have d7 : Below w.heap.size w w7 := bthen d6 b7
          have k7 : w.heap.size ≤ w7.heap.size := d7.size
          have fa_7 : w7.rangeAt (w2.heap.size + 1) 0 (FA).toList := range_below b7 (by omega) fa_6
          have zfa_7 : w2.heap.size + 1 < w7.heap.size := Nat.lt_of_lt_of_le zfa_6 b7.size
          have ga_7 : w7.rangeAt (w4.heap.size) 0 (GA).toList := range_below b7 (by omega) ga_6
          have zga_7 : w4.heap.size < w7.heap.size := Nat.lt_of_lt_of_le zga_6 b7.size
          have c0_7 : w7.cell? ⟨w2.heap.size, 0, none⟩ = some (.int .i64 s) := (b7.cell (p := ⟨w2.heap.size, 0, none⟩) (by show w2.heap.size < w6.heap.size; omega)).trans c0_6
          have c1_7 : w7.cell? ⟨w2.heap.size, 1, none⟩ = some (.int .i64 e) := (b7.cell (p := ⟨w2.heap.size, 1, none⟩) (by show w2.heap.size < w6.heap.size; omega)).trans c1_6
          have zc_7 : w2.heap.size < w7.heap.size := Nat.lt_of_lt_of_le zc_6 b7.size
          clear hb b7 d6 k6 fa_6 zfa_6 ga_6 zga_6 c0_6 c1_6 zc_6
          have hR2 := hN
          clear hN
          cases R
          · skip
            have hN2 : Hid (∀ W, (binOp .neq 42 (.agg GA) (.agg FA)).run Tryd.prog W = .ok (.bool false) W) ∨ True := .inr trivial
            first | (have hN3 := (hR2 rfl).out) | skip
            go_wp2_with (first | (refine wpList_load_wide 42 (.tmp 12) rfl (by rfl) _ _ rfl GA _ Tryd.underlying42 rfl IG2.out ?_ ?_; · (repeat (first | with_reducible exact ga_7 | refine World.rangeAt_alloc ?_ _))) | (refine wpList_load_wide 42 (.tmp 9) rfl (by rfl) _ _ rfl FA _ Tryd.underlying42 rfl IF2.out ?_ ?_; · (repeat (first | with_reducible exact fa_7 | refine World.rangeAt_alloc ?_ _))))
            clear hR2 hN2
            go_loopw [71] (fun i wr => ∃ k : Nat, k ≤ 9 ∧ i = .int .u8 k ∧ Below w7.heap.size w7 wr) (fun i _ => 9 - (intOf i).toNat)
            case atStart => exact ⟨0, by omega, rfl, Below.refl _ _⟩
            case round =>
              obtain ⟨k, hk, rfl, hb⟩ := hrel
              by_cases hlt : k < 9
              · have d8 := bthen d7 hb
                have k8 := d8.size
                have fa_8 := range_below hb zfa_7 fa_7
                have ga_8 := range_below hb zga_7 ga_7
                have c0_8 := kc hb c0_7
                have c1_8 := kc hb c1_7
                have zfa_8 := Nat.lt_of_lt_of_le zfa_7 hb.size
                have zga_8 := Nat.lt_of_lt_of_le zga_7 hb.size
                have zc_8 := Nat.lt_of_lt_of_le zc_7 hb.size
                have HOk := Lib.hid (HO.out k hlt)
                have HSk := Lib.hid (HS.out k hlt)
                have fk := Lib.hid (hFk.out k hlt)
                have gk := Lib.hid (hGk.out k hlt)
                have hkd : decide ((k : Int) < 9) = true := by simp; omega
                have kk9 : (k : Int) < 9 := by omega
                have kk0 : (0 : Int) ≤ k := by omega
                have hb7 := hb
                clear hb fa_7 ga_7 c0_7 c1_7 zfa_7 zga_7 zc_7 d7 k7
                go_wp2_with (first | (refine wpList_load_wide 42 (.tmp 9) rfl (by rfl) _ _ rfl FA _ Tryd.underlying42 rfl IF2.out ?_ ?_; · (repeat (first | with_reducible exact fa_8 | refine World.rangeAt_alloc ?_ _))))
                refine (HOk.out _).mono ?_
                rintro e w9 ⟨rfl, hb⟩
                have b9 : Below wr.heap.size wr w9 := bthen (by (repeat' (first | exact Below.refl _ _ | refine Below.setCell ?_ (by first | omega | (simp; done) | (simp; omega)) _ | refine Below.alloc ?_ (by first | omega | (simp; done) | (simp; omega)) _))) hb
                have d9 : Below w.heap.size w w9 := bthen d8 b9
                have k9 : w.heap.size ≤ w9.heap.size := d9.size
                have fa_9 : w9.rangeAt (w2.heap.size + 1) 0 (FA).toList := range_below b9 (by omega) fa_8
                have zfa_9 : w2.heap.size + 1 < w9.heap.size := Nat.lt_of_lt_of_le zfa_8 b9.size
                have ga_9 : w9.rangeAt (w4.heap.size) 0 (GA).toList := range_below b9 (by omega) ga_8
                have zga_9 : w4.heap.size < w9.heap.size := Nat.lt_of_lt_of_le zga_8 b9.size
                have c0_9 : w9.cell? ⟨w2.heap.size, 0, none⟩ = some (.int .i64 s) := (b9.cell (p := ⟨w2.heap.size, 0, none⟩) (by show w2.heap.size < wr.heap.size; omega)).trans c0_8
                have c1_9 : w9.cell? ⟨w2.heap.size, 1, none⟩ = some (.int .i64 e) := (b9.cell (p := ⟨w2.heap.size, 1, none⟩) (by show w2.heap.size < wr.heap.size; omega)).trans c1_8
                have zc_9 : w2.heap.size < w9.heap.size := Nat.lt_of_lt_of_le zc_8 b9.size
                clear hb d8 k8 fa_8 zfa_8 ga_8 zga_8 c0_8 c1_8 zc_8
                go_wp2_with fail
                refine wp_region_steps 10 [[], [0], [1], [], [], [2, 3, 4], [5], [6], [6], [7]] (fun D a w' => ∃ v17 v82 v83 v84 v85 v86 v87 v88 v89 v90 : Value, a = ⟨#[.agg #[.int .i64 (b 0), .int .i64 (b 1), .int .i64 (b 2), .int .i64 (b 3), .int .i64 (b 4), .int .i64 (b 5), .int .i64 (b 6), .int .i64 (b 7), .int .i64 (b 8)], .agg #[.int .i64 n1, .int .i64 n2, .int .i64 n3], .int .i64 l, .pointer (some ⟨w.heap.size, 0, none⟩), .pointer (some ⟨w.heap.size + 1, 0, none⟩), undef, u6, .int .i64 t, .pointer (some ⟨w2.heap.size, 0, none⟩), .pointer (some ⟨w2.heap.size + 1, 0, none⟩), u10, u11, .pointer (some ⟨w4.heap.size, 0, none⟩), .int .i64 0, .int .u8 ↑k, .int .i64 (g k), .int .i64 0, v17, u18, .bool true, .bool false, .tuple #[.int .i64 t, .agg #[.int .i64 s, .int .i64 e]], .agg #[.int .i64 n1, .int .i64 n2, .int .i64 n3], .tuple #[.int .i64 t, .agg #[.int .i64 s, .int .i64 e]], .int .i64 t, .agg #[.int .i64 s, .int .i64 e], .int .i64 lv, .pointer (some ⟨w2.heap.size, 1, none⟩), .int .i64 e, .int .i64 l, .agg #[.int .i64 (b 0), .int .i64 (b 1), .int .i64 (b 2), .int .i64 (b 3), .int .i64 (b 4), .int .i64 (b 5), .int .i64 (b 6), .int .i64 (b 7), .int .i64 (b 8)], .int .i64 9, .bool false, u33, u34, u35, u36, u37, u38, u39, u40, .tuple #[.agg GA, .int .i64 0], .agg FA, .agg #[.int .i64 s, .int .i64 e], .int .i64 l, .tuple #[.agg GA, .int .i64 0], .agg GA, .int .i64 0, .int .i64 0, .bool false, .bool false, .agg FA, .bool true, .bool false, .bool false, .bool false, .agg GA, .bool true, .bool false, .bool false, .bool false, .int .i64 l, .pointer (some ⟨w2.heap.size, 0, none⟩), .int .i64 s, .bool false, .bool false, undef, undef, undef, .bool false, .bool false, .int .u8 ↑k, .bool true, .int .u8 ↑k, .tuple #[.int .i64 (g k), .int .i64 0], .agg FA, .int .u8 ↑k, .agg #[.int .i64 s, .int .i64 e], .int .i64 l, .tuple #[.int .i64 (g k), .int .i64 0], .int .i64 (g k), .int .i64 0, v82, v83, v84, v85, v86, v87, v88, v89, v90, u91, u92, u93, u94, u95, u96, u97, u98, u99, u100, u101, u102, u103, u104, u105, u106, u107], []⟩ ∧ AlR w9 (w2.heap.size + 1) k f g s e l D v17 v82 v83 v84 v85 v86 v87 v88 v89 v90 w') (by kernel_rfl) (by kernel_rfl) ⟨u17, u82, u83, u84, u85, u86, u87, u88, u89, u90, rfl, AlR.zero w9 (w2.heap.size + 1) k f g s e l (u17) (u82) (u83) (u84) (u85) (u86) (u87) (u88) (u89) (u90)⟩ ?_ ?_
                · simp only [List.take_succ_cons, List.take_zero]
                  refine ⟨?_, ?_, ?_, ?_, ?_, ?_, ?_, ?_, ?_, ?_, trivial⟩
                  · intro D a w' hn hp hI
                    obtain ⟨v17, v82, v83, v84, v85, v86, v87, v88, v89, v90, rfl, hR⟩ := hI
                    clear hn hp
                    go_wp2_with fail
                    exact ⟨_, _, _, _, _, _, _, _, _, _, rfl, hR.s0 (Below.refl _ _)⟩
                  · intro D a w' hn hp hI
                    obtain ⟨v17, v82, v83, v84, v85, v86, v87, v88, v89, v90, rfl, hR⟩ := hI
                    obtain rfl := hR.e0 hp.1
                    clear hn hp
                    go_wp2_with fail
                    exact ⟨_, _, _, _, _, _, _, _, _, _, rfl, hR.s1 (Below.refl _ _)⟩
                  · intro D a w' hn hp hI
                    obtain ⟨v17, v82, v83, v84, v85, v86, v87, v88, v89, v90, rfl, hR⟩ := hI
                    obtain rfl := hR.e1 hp.1
                    have cF := (range_below hR.b zfa_9 fa_9) k _ fk.out
                    simp only [Nat.zero_add] at cF
                    clear hn hp
                    go_wp2_with fail
                    exact ⟨_, _, _, _, _, _, _, _, _, _, rfl, hR.s2 (Below.refl _ _)⟩
                  · intro D a w' hn hp hI
                    obtain ⟨v17, v82, v83, v84, v85, v86, v87, v88, v89, v90, rfl, hR⟩ := hI
                    have q0 := kc hR.b c0_9
                    have q1 := kc hR.b c1_9
                    clear hn hp
                    go_wp2_with fail
                    exact ⟨_, _, _, _, _, _, _, _, _, _, rfl, hR.s3 (Below.refl _ _)⟩
                  · intro D a w' hn hp hI
                    obtain ⟨v17, v82, v83, v84, v85, v86, v87, v88, v89, v90, rfl, hR⟩ := hI
                    clear hn hp
                    go_wp2_with fail
                    exact ⟨_, _, _, _, _, _, _, _, _, _, rfl, hR.s4 (Below.refl _ _)⟩
                  · intro D a w' hn hp hI
                    obtain ⟨v17, v82, v83, v84, v85, v86, v87, v88, v89, v90, rfl, hR⟩ := hI
                    obtain rfl := hR.e2 hp.1
                    obtain rfl := hR.e3 hp.2.1
                    obtain rfl := hR.e4 hp.2.2.1
                    clear hn hp
                    go_wp2_with fail
                    refine (HSk.out _).mono ?_
                    rintro e w'' ⟨rfl, hb⟩
                    go_wp2_with fail
                    exact ⟨_, _, _, _, _, _, _, _, _, _, rfl, hR.s5 hb⟩
                  · intro D a w' hn hp hI
                    obtain ⟨v17, v82, v83, v84, v85, v86, v87, v88, v89, v90, rfl, hR⟩ := hI
                    obtain rfl := hR.e5 hp.1
                    clear hn hp
                    go_wp2_with fail
                    exact ⟨_, _, _, _, _, _, _, _, _, _, rfl, hR.s6 (Below.refl _ _)⟩
                  · intro D a w' hn hp hI
                    obtain ⟨v17, v82, v83, v84, v85, v86, v87, v88, v89, v90, rfl, hR⟩ := hI
                    obtain rfl := hR.e6 hp.1
                    clear hn hp
                    go_wp2_with fail
                    exact ⟨_, _, _, _, _, _, _, _, _, _, rfl, hR.s7 (Below.refl _ _)⟩
                  · intro D a w' hn hp hI
                    obtain ⟨v17, v82, v83, v84, v85, v86, v87, v88, v89, v90, rfl, hR⟩ := hI
                    obtain rfl := hR.e6 hp.1
                    clear hn hp
                    go_wp2_with fail
                    exact ⟨_, _, _, _, _, _, _, _, _, _, rfl, hR.s8 (Below.refl _ _)⟩
                  · intro D a w' hn hp hI
                    obtain ⟨v17, v82, v83, v84, v85, v86, v87, v88, v89, v90, rfl, hR⟩ := hI
                    obtain rfl := hR.e7 hp.1
                    clear hn hp
                    go_wp2_with fail
                    exact ⟨_, _, _, _, _, _, _, _, _, _, rfl, hR.s9 (Below.refl _ _)⟩
                intro D a w' hD hI
                obtain ⟨v17, v82, v83, v84, v85, v86, v87, v88, v89, v90, rfl, hR⟩ := hI
                obtain rfl := hR.e0 (hD 0 (by decide))
                obtain rfl := hR.e1 (hD 1 (by decide))
                obtain rfl := hR.e2 (hD 2 (by decide))
                obtain rfl := hR.e3 (hD 3 (by decide))
                obtain rfl := hR.e4 (hD 4 (by decide))
                obtain rfl := hR.e5 (hD 5 (by decide))
                obtain rfl := hR.e6 (hD 6 (by decide))
                obtain rfl := hR.e7 (hD 7 (by decide))
                obtain rfl := hR.e8 (hD 8 (by decide))
                obtain rfl := hR.e9 (hD 9 (by decide))
                have hb := hR.b
                have cG := (range_below hb zga_9 ga_9) k _ gk.out
                simp only [Nat.zero_add] at cG
                have hrel' := bthen hb7 (bthen b9 hb)
                clear hR hb hb7 b9 d9
                simp only [List.drop_succ_cons, List.drop_zero]
                go_wp2_with fail
                go_roundw
                case rel => exact ⟨k + 1, by omega, by go_num, hrel'⟩
                case measure => simp [intOf]; omega
              · obtain rfl : k = 9 := by omega
                have hb9 := bthen d7 hb
                go_wp2_with fail
                go_ret
                exact ⟨rfl, hb9⟩
          · skip
            have hN2 : Hid (∀ W, (binOp .neq 42 (.agg GA) (.agg FA)).run Tryd.prog W = .ok (.bool false) W) ∨ True := .inr trivial
            first | (have hN3 := (hR2 rfl).out) | skip
            go_wp2_with (first | (refine wpList_load_wide 42 (.tmp 12) rfl (by rfl) _ _ rfl GA _ Tryd.underlying42 rfl IG2.out ?_ ?_; · (repeat (first | with_reducible exact ga_7 | refine World.rangeAt_alloc ?_ _))) | (refine wpList_load_wide 42 (.tmp 9) rfl (by rfl) _ _ rfl FA _ Tryd.underlying42 rfl IF2.out ?_ ?_; · (repeat (first | with_reducible exact fa_7 | refine World.rangeAt_alloc ?_ _))))
            clear hR2 hN2
            go_loopw [71] (fun i wr => ∃ k : Nat, k ≤ 9 ∧ i = .int .u8 k ∧ Below w7.heap.size w7 wr) (fun i _ => 9 - (intOf i).toNat)
            case atStart => exact ⟨0, by omega, rfl, Below.refl _ _⟩
            case round =>
              obtain ⟨k, hk, rfl, hb⟩ := hrel
              by_cases hlt : k < 9
              · have d8 := bthen d7 hb
                have k8 := d8.size
                have fa_8 := range_below hb zfa_7 fa_7
                have ga_8 := range_below hb zga_7 ga_7
                have c0_8 := kc hb c0_7
                have c1_8 := kc hb c1_7
                have zfa_8 := Nat.lt_of_lt_of_le zfa_7 hb.size
                have zga_8 := Nat.lt_of_lt_of_le zga_7 hb.size
                have zc_8 := Nat.lt_of_lt_of_le zc_7 hb.size
                have HOk := Lib.hid (HO.out k hlt)
                have HSk := Lib.hid (HS.out k hlt)
                have fk := Lib.hid (hFk.out k hlt)
                have gk := Lib.hid (hGk.out k hlt)
                have hkd : decide ((k : Int) < 9) = true := by simp; omega
                have kk9 : (k : Int) < 9 := by omega
                have kk0 : (0 : Int) ≤ k := by omega
                have hb7 := hb
                clear hb fa_7 ga_7 c0_7 c1_7 zfa_7 zga_7 zc_7 d7 k7
                go_wp2_with (first | (refine wpList_load_wide 42 (.tmp 9) rfl (by rfl) _ _ rfl FA _ Tryd.underlying42 rfl IF2.out ?_ ?_; · (repeat (first | with_reducible exact fa_8 | refine World.rangeAt_alloc ?_ _))))
                refine (HOk.out _).mono ?_
                rintro e w9 ⟨rfl, hb⟩
                have b9 : Below wr.heap.size wr w9 := bthen (by (repeat' (first | exact Below.refl _ _ | refine Below.setCell ?_ (by first | omega | (simp; done) | (simp; omega)) _ | refine Below.alloc ?_ (by first | omega | (simp; done) | (simp; omega)) _))) hb
                have d9 : Below w.heap.size w w9 := bthen d8 b9
                have k9 : w.heap.size ≤ w9.heap.size := d9.size
                have fa_9 : w9.rangeAt (w2.heap.size + 1) 0 (FA).toList := range_below b9 (by omega) fa_8
                have zfa_9 : w2.heap.size + 1 < w9.heap.size := Nat.lt_of_lt_of_le zfa_8 b9.size
                have ga_9 : w9.rangeAt (w4.heap.size) 0 (GA).toList := range_below b9 (by omega) ga_8
                have zga_9 : w4.heap.size < w9.heap.size := Nat.lt_of_lt_of_le zga_8 b9.size
                have c0_9 : w9.cell? ⟨w2.heap.size, 0, none⟩ = some (.int .i64 s) := (b9.cell (p := ⟨w2.heap.size, 0, none⟩) (by show w2.heap.size < wr.heap.size; omega)).trans c0_8
                have c1_9 : w9.cell? ⟨w2.heap.size, 1, none⟩ = some (.int .i64 e) := (b9.cell (p := ⟨w2.heap.size, 1, none⟩) (by show w2.heap.size < wr.heap.size; omega)).trans c1_8
                have zc_9 : w2.heap.size < w9.heap.size := Nat.lt_of_lt_of_le zc_8 b9.size
                clear hb d8 k8 fa_8 zfa_8 ga_8 zga_8 c0_8 c1_8 zc_8
                go_wp2_with fail
                refine wp_region_steps 10 [[], [0], [1], [], [], [2, 3, 4], [5], [6], [6], [7]] (fun D a w' => ∃ v17 v82 v83 v84 v85 v86 v87 v88 v89 v90 : Value, a = ⟨#[.agg #[.int .i64 (b 0), .int .i64 (b 1), .int .i64 (b 2), .int .i64 (b 3), .int .i64 (b 4), .int .i64 (b 5), .int .i64 (b 6), .int .i64 (b 7), .int .i64 (b 8)], .agg #[.int .i64 n1, .int .i64 n2, .int .i64 n3], .int .i64 l, .pointer (some ⟨w.heap.size, 0, none⟩), .pointer (some ⟨w.heap.size + 1, 0, none⟩), undef, u6, .int .i64 t, .pointer (some ⟨w2.heap.size, 0, none⟩), .pointer (some ⟨w2.heap.size + 1, 0, none⟩), u10, u11, .pointer (some ⟨w4.heap.size, 0, none⟩), .int .i64 0, .int .u8 ↑k, .int .i64 (g k), .int .i64 0, v17, u18, .bool true, .bool false, .tuple #[.int .i64 t, .agg #[.int .i64 s, .int .i64 e]], .agg #[.int .i64 n1, .int .i64 n2, .int .i64 n3], .tuple #[.int .i64 t, .agg #[.int .i64 s, .int .i64 e]], .int .i64 t, .agg #[.int .i64 s, .int .i64 e], .int .i64 lv, .pointer (some ⟨w2.heap.size, 1, none⟩), .int .i64 e, .int .i64 l, .agg #[.int .i64 (b 0), .int .i64 (b 1), .int .i64 (b 2), .int .i64 (b 3), .int .i64 (b 4), .int .i64 (b 5), .int .i64 (b 6), .int .i64 (b 7), .int .i64 (b 8)], .int .i64 9, .bool false, u33, u34, u35, u36, u37, u38, u39, u40, .tuple #[.agg GA, .int .i64 0], .agg FA, .agg #[.int .i64 s, .int .i64 e], .int .i64 l, .tuple #[.agg GA, .int .i64 0], .agg GA, .int .i64 0, .int .i64 0, .bool false, .bool false, .agg FA, .bool true, .bool false, .bool false, .bool false, .agg GA, .bool true, .bool false, .bool false, .bool false, .int .i64 l, .pointer (some ⟨w2.heap.size, 0, none⟩), .int .i64 s, .bool true, .bool true, .agg GA, .agg FA, .bool false, .bool false, .bool false, .int .u8 ↑k, .bool true, .int .u8 ↑k, .tuple #[.int .i64 (g k), .int .i64 0], .agg FA, .int .u8 ↑k, .agg #[.int .i64 s, .int .i64 e], .int .i64 l, .tuple #[.int .i64 (g k), .int .i64 0], .int .i64 (g k), .int .i64 0, v82, v83, v84, v85, v86, v87, v88, v89, v90, u91, u92, u93, u94, u95, u96, u97, u98, u99, u100, u101, u102, u103, u104, u105, u106, u107], []⟩ ∧ AlR w9 (w2.heap.size + 1) k f g s e l D v17 v82 v83 v84 v85 v86 v87 v88 v89 v90 w') (by kernel_rfl) (by kernel_rfl) ⟨u17, u82, u83, u84, u85, u86, u87, u88, u89, u90, rfl, AlR.zero w9 (w2.heap.size + 1) k f g s e l (u17) (u82) (u83) (u84) (u85) (u86) (u87) (u88) (u89) (u90)⟩ ?_ ?_
                · simp only [List.take_succ_cons, List.take_zero]
                  refine ⟨?_, ?_, ?_, ?_, ?_, ?_, ?_, ?_, ?_, ?_, trivial⟩
                  · intro D a w' hn hp hI
                    obtain ⟨v17, v82, v83, v84, v85, v86, v87, v88, v89, v90, rfl, hR⟩ := hI
                    clear hn hp
                    go_wp2_with fail
                    exact ⟨_, _, _, _, _, _, _, _, _, _, rfl, hR.s0 (Below.refl _ _)⟩
                  · intro D a w' hn hp hI
                    obtain ⟨v17, v82, v83, v84, v85, v86, v87, v88, v89, v90, rfl, hR⟩ := hI
                    obtain rfl := hR.e0 hp.1
                    clear hn hp
                    go_wp2_with fail
                    exact ⟨_, _, _, _, _, _, _, _, _, _, rfl, hR.s1 (Below.refl _ _)⟩
                  · intro D a w' hn hp hI
                    obtain ⟨v17, v82, v83, v84, v85, v86, v87, v88, v89, v90, rfl, hR⟩ := hI
                    obtain rfl := hR.e1 hp.1
                    have cF := (range_below hR.b zfa_9 fa_9) k _ fk.out
                    simp only [Nat.zero_add] at cF
                    clear hn hp
                    go_wp2_with fail
                    exact ⟨_, _, _, _, _, _, _, _, _, _, rfl, hR.s2 (Below.refl _ _)⟩
                  · intro D a w' hn hp hI
                    obtain ⟨v17, v82, v83, v84, v85, v86, v87, v88, v89, v90, rfl, hR⟩ := hI
                    have q0 := kc hR.b c0_9
                    have q1 := kc hR.b c1_9
                    clear hn hp
                    go_wp2_with fail
                    exact ⟨_, _, _, _, _, _, _, _, _, _, rfl, hR.s3 (Below.refl _ _)⟩
                  · intro D a w' hn hp hI
                    obtain ⟨v17, v82, v83, v84, v85, v86, v87, v88, v89, v90, rfl, hR⟩ := hI
                    clear hn hp
                    go_wp2_with fail
                    exact ⟨_, _, _, _, _, _, _, _, _, _, rfl, hR.s4 (Below.refl _ _)⟩
                  · intro D a w' hn hp hI
                    obtain ⟨v17, v82, v83, v84, v85, v86, v87, v88, v89, v90, rfl, hR⟩ := hI
                    obtain rfl := hR.e2 hp.1
                    obtain rfl := hR.e3 hp.2.1
                    obtain rfl := hR.e4 hp.2.2.1
                    clear hn hp
                    go_wp2_with fail
                    refine (HSk.out _).mono ?_
                    rintro e w'' ⟨rfl, hb⟩
                    go_wp2_with fail
                    exact ⟨_, _, _, _, _, _, _, _, _, _, rfl, hR.s5 hb⟩
                  · intro D a w' hn hp hI
                    obtain ⟨v17, v82, v83, v84, v85, v86, v87, v88, v89, v90, rfl, hR⟩ := hI
                    obtain rfl := hR.e5 hp.1
                    clear hn hp
                    go_wp2_with fail
                    exact ⟨_, _, _, _, _, _, _, _, _, _, rfl, hR.s6 (Below.refl _ _)⟩
                  · intro D a w' hn hp hI
                    obtain ⟨v17, v82, v83, v84, v85, v86, v87, v88, v89, v90, rfl, hR⟩ := hI
                    obtain rfl := hR.e6 hp.1
                    clear hn hp
                    go_wp2_with fail
                    exact ⟨_, _, _, _, _, _, _, _, _, _, rfl, hR.s7 (Below.refl _ _)⟩
                  · intro D a w' hn hp hI
                    obtain ⟨v17, v82, v83, v84, v85, v86, v87, v88, v89, v90, rfl, hR⟩ := hI
                    obtain rfl := hR.e6 hp.1
                    clear hn hp
                    go_wp2_with fail
                    exact ⟨_, _, _, _, _, _, _, _, _, _, rfl, hR.s8 (Below.refl _ _)⟩
                  · intro D a w' hn hp hI
                    obtain ⟨v17, v82, v83, v84, v85, v86, v87, v88, v89, v90, rfl, hR⟩ := hI
                    obtain rfl := hR.e7 hp.1
                    clear hn hp
                    go_wp2_with fail
                    exact ⟨_, _, _, _, _, _, _, _, _, _, rfl, hR.s9 (Below.refl _ _)⟩
                intro D a w' hD hI
                obtain ⟨v17, v82, v83, v84, v85, v86, v87, v88, v89, v90, rfl, hR⟩ := hI
                obtain rfl := hR.e0 (hD 0 (by decide))
                obtain rfl := hR.e1 (hD 1 (by decide))
                obtain rfl := hR.e2 (hD 2 (by decide))
                obtain rfl := hR.e3 (hD 3 (by decide))
                obtain rfl := hR.e4 (hD 4 (by decide))
                obtain rfl := hR.e5 (hD 5 (by decide))
                obtain rfl := hR.e6 (hD 6 (by decide))
                obtain rfl := hR.e7 (hD 7 (by decide))
                obtain rfl := hR.e8 (hD 8 (by decide))
                obtain rfl := hR.e9 (hD 9 (by decide))
                have hb := hR.b
                have cG := (range_below hb zga_9 ga_9) k _ gk.out
                simp only [Nat.zero_add] at cG
                have hrel' := bthen hb7 (bthen b9 hb)
                clear hR hb hb7 b9 d9
                simp only [List.drop_succ_cons, List.drop_zero]
                go_wp2_with fail
                go_roundw
                case rel => exact ⟨k + 1, by omega, by go_num, hrel'⟩
                case measure => simp [intOf]; omega
              · obtain rfl : k = 9 := by omega
                have hb9 := bthen d7 hb
                go_wp2_with fail
                go_ret
                exact ⟨rfl, hb9⟩

theorem of_good (b : Nat → Int) (k : Nat) (hk : k < 9) (s e l : Int) (h1 : rgt b = true) (h3 : lvs s e l = true) (w : World) :
    Calls Tryd.prog 25 #[.agg (nine b), .int .u8 k, .agg #[.int .i64 s, .int .i64 e], .int .i64 l] w fun r w' => r = .returned (.tuple #[.int .i64 (scl (b k) s e l), .int .i64 0]) ∧ Below w.heap.size w w' := by
  have := of_any b k s e l w (by omega)
  rw [ofE_yes b s e l h1 h3 k hk] at this
  exact this

set_option maxHeartbeats 1000000 in
theorem timeoutAll_walk (b : Nat → Int) (x : Nb) (n : Int) (w : World) (hT : Tab w) (hb : ∀ i, B64 (b i)) (hx : B64 x.1 ∧ B64 x.2.1 ∧ B64 x.2.2) (hn : B64 n) :
    Calls Tryd.prog 10 #[.agg #[.int .i64 (b 0), .int .i64 (b 1), .int .i64 (b 2), .int .i64 (b 3), .int .i64 (b 4), .int .i64 (b 5), .int .i64 (b 6), .int .i64 (b 7), .int .i64 (b 8)], .agg #[.int .i64 x.1, .int .i64 x.2.1, .int .i64 x.2.2], .int .i64 n] w fun e w' => e = .returned (.bool true) ∧ Below w.heap.size w w' := by
  obtain ⟨t, s, e, ⟨h1, h2, h3, h4, h5, h6⟩, HM⟩ := made_any' x w hx
  have HL : Hid (∀ W, Calls Tryd.prog 16 #[.int .i64 n, .int .i64 e] W fun r w' => r = .returned (.int .i64 (n % e)) ∧ W = w') := fun W => modulo_any n e W hn.1 hn.2 (by omega) (by omega)
  have l1 := Int.emod_nonneg n (show e ≠ 0 by omega)
  have l2 := Int.emod_lt_of_pos n (show 0 < e by omega)
  generalize n % e = l at *
  have HX : Hid (∀ k, k < 9 → ∀ W, Calls Tryd.prog 16 #[.int .i64 (b k), .int .i64 16777215] W fun r w' => r = .returned (.int .i64 ((fun k => b k % 16777215) k)) ∧ W = w') := fun k _ W => modulo_any (b k) 16777215 W (hb k).1 (hb k).2 (by omega) (by omega)
  have hxx : ∀ k, 0 ≤ (fun k => b k % 16777215) k ∧ (fun k => b k % 16777215) k ≤ 16777214 := fun k => by
    show 0 ≤ b k % 16777215 ∧ b k % 16777215 ≤ 16777214
    omega
  generalize (fun k => b k % 16777215) = y at *
  obtain ⟨f, hf⟩ : ∃ f : Nat → Int, ∀ k, f k = 1 + y k := ⟨fun k => 1 + y k, fun _ => rfl⟩
  have hf1 : ∀ k, 1 ≤ f k ∧ f k ≤ 16777215 := fun k => by rw [hf]; have := hxx k; omega
  have Lv : lvs s e l = true := by simp [lvs, rsc]; omega
  have RF : rgt f = true := rgt_mk fun k _ => by simp [tmd, hf1 k]
  have KA := fun W => all_yes f s e l W RF Lv
  have KO := fun (k : Nat) (hk : k < 9) W => of_good f k hk s e l RF Lv W
  have KS := fun (k : Nat) W => Scaled_ok (t := f k) (s := s) (e := e) (l := l) W (hf1 k).1 (hf1 k).2 h3 h5 (by omega) l1 l2
  obtain ⟨g, hg⟩ : ∃ g : Nat → Int, ∀ k, scl (f k) s e l = g k := ⟨fun k => scl (f k) s e l, fun _ => rfl⟩
  have hg1 : ∀ k, 1 ≤ g k ∧ g k ≤ 16777215 := fun k => by
    rw [← hg]
    have a := scl_range (f k) s e l (hf1 k).1 h3 h5 l1 l2
    have c := hf1 k
    omega
  have RG : rgt g = true := rgt_mk fun k _ => by simp [tmd, hg1 k]
  simp only [hg] at KA KO KS
  have hN : decide (l ≤ s) = true → ∀ W, (binOp .neq 42 (.agg (nine g)) (.agg (nine f))).run Tryd.prog W = .ok (.bool false) W := fun h W => by
    have h := of_decide_eq_true h
    have : g = f := funext fun k => by rw [← hg, scl, if_pos h]
    rw [this]
    exact nine_neq f W
  have zF : (nine f).size = 9 := rfl
  have zG : (nine g).size = 9 := rfl
  have oG : (nine g).all (·.oneCell') = true := by simp [Value.oneCell']
  have hRF : ∀ W n, Nine W n (part f (fun _ => 0) 9) → W.rangeAt n 0 (nine f).toList := fun W n h => nine_range h
  have hFk := nine_get f
  have hGk := nine_get g
  have KR1 := fun W => right_is _ _ RF W
  have KR2 := fun W => right_is _ _ RG W
  change ∀ W, Calls Tryd.prog 23 #[.agg (nine f), _, _] W (fun r w' => r = .returned (.tuple #[.agg (nine g), _]) ∧ _) at KA
  clear RF RG
  generalize nine f = FA at *
  generalize nine g = GA at *
  exact allL_core x.1 x.2.1 x.2.2 n t s e l b y f g FA GA _ w hT ⟨h1, h2⟩ (fun k _ => ⟨(hxx k).1, (hxx k).2, hf k⟩) zF zG oG hRF hFk hGk rfl hN HM.out HL.out HX.out KA KR1 KR2 KO (fun k _ W => KS k W)

end Go.Proofs.YtkcgijkccpiljaaDoor
