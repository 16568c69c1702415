/-
  The contract of the laws' own 'bases', and the walk of TimeoutBases: the scaled timeouts of bases are as specified.
-/
import Derived.Test.YtkcgijkccpiljaaDoorRAll9
import Derived.Test.YtkcgijkccpiljaaDoorTells
import Derived.Test.YtkcgijkccpiljaaDoorWide
import Derived.Test.YtkcgijkccpiljaaDoorInv
import Derived.ChangeKeysEq
namespace Go.Proofs.YtkcgijkccpiljaaDoor
open Go.RowKit
set_option linter.unusedVariables false
set_option linter.unusedSimpArgs false

theorem two_at {w : World} {B : Nat} {a b : Value} (h : w.cell? ⟨B, 0, none⟩ = some a) (k : w.cell? ⟨B, 1, none⟩ = some b) : w.rangeAt B 0 [a, b] := fun j v hv => by
  match j, hv with
  | 0, hv => simp at hv; subst hv; exact h
  | 1, hv => simp at hv; subst hv; exact k
theorem info3x : (Tryd.prog.info? 3).map (fun i => i.size) = some 1 := by kernel_rfl
theorem cells3 : Tryd.prog.cellsOf 3 = 1 := by kernel_rfl
theorem info42 : (Tryd.prog.info? 42).map (·.size) = some 9 := by kernel_rfl
theorem info41 : (Tryd.prog.info? 41).map (·.size) = some 9 := by kernel_rfl
set_option maxRecDepth 100000 in
set_option maxHeartbeats 1000000 in
theorem nine_eql (v : Nat → Int) (W : World) : (binOp .eql 42 (.agg #[.int .i64 (v 0), .int .i64 (v 1), .int .i64 (v 2), .int .i64 (v 3), .int .i64 (v 4), .int .i64 (v 5), .int .i64 (v 6), .int .i64 (v 7), .int .i64 (v 8)]) (.agg #[.int .i64 (v 0), .int .i64 (v 1), .int .i64 (v 2), .int .i64 (v 3), .int .i64 (v 4), .int .i64 (v 5), .int .i64 (v 6), .int .i64 (v 7), .int .i64 (v 8)])).run Tryd.prog W = .ok (.bool true) W := by
  obtain ⟨i, hi⟩ : ∃ i, Tryd.prog.info? 3 = some i := by
    have := info3x
    cases h : Tryd.prog.info? 3 with
    | none => rw [h] at this; cases this
    | some i => exact ⟨i, rfl⟩
  have p0 : ∀ W, (Go.part 3 #[.int .i64 (v 0), .int .i64 (v 1), .int .i64 (v 2), .int .i64 (v 3), .int .i64 (v 4), .int .i64 (v 5), .int .i64 (v 6), .int .i64 (v 7), .int .i64 (v 8)] 0).run Tryd.prog W = .ok (.int .i64 (v 0)) W := fun W => by kernel_rfl
  have p1 : ∀ W, (Go.part 3 #[.int .i64 (v 0), .int .i64 (v 1), .int .i64 (v 2), .int .i64 (v 3), .int .i64 (v 4), .int .i64 (v 5), .int .i64 (v 6), .int .i64 (v 7), .int .i64 (v 8)] 1).run Tryd.prog W = .ok (.int .i64 (v 1)) W := fun W => by kernel_rfl
  have p2 : ∀ W, (Go.part 3 #[.int .i64 (v 0), .int .i64 (v 1), .int .i64 (v 2), .int .i64 (v 3), .int .i64 (v 4), .int .i64 (v 5), .int .i64 (v 6), .int .i64 (v 7), .int .i64 (v 8)] 2).run Tryd.prog W = .ok (.int .i64 (v 2)) W := fun W => by kernel_rfl
  have p3 : ∀ W, (Go.part 3 #[.int .i64 (v 0), .int .i64 (v 1), .int .i64 (v 2), .int .i64 (v 3), .int .i64 (v 4), .int .i64 (v 5), .int .i64 (v 6), .int .i64 (v 7), .int .i64 (v 8)] 3).run Tryd.prog W = .ok (.int .i64 (v 3)) W := fun W => by kernel_rfl
  have p4 : ∀ W, (Go.part 3 #[.int .i64 (v 0), .int .i64 (v 1), .int .i64 (v 2), .int .i64 (v 3), .int .i64 (v 4), .int .i64 (v 5), .int .i64 (v 6), .int .i64 (v 7), .int .i64 (v 8)] 4).run Tryd.prog W = .ok (.int .i64 (v 4)) W := fun W => by kernel_rfl
  have p5 : ∀ W, (Go.part 3 #[.int .i64 (v 0), .int .i64 (v 1), .int .i64 (v 2), .int .i64 (v 3), .int .i64 (v 4), .int .i64 (v 5), .int .i64 (v 6), .int .i64 (v 7), .int .i64 (v 8)] 5).run Tryd.prog W = .ok (.int .i64 (v 5)) W := fun W => by kernel_rfl
  have p6 : ∀ W, (Go.part 3 #[.int .i64 (v 0), .int .i64 (v 1), .int .i64 (v 2), .int .i64 (v 3), .int .i64 (v 4), .int .i64 (v 5), .int .i64 (v 6), .int .i64 (v 7), .int .i64 (v 8)] 6).run Tryd.prog W = .ok (.int .i64 (v 6)) W := fun W => by kernel_rfl
  have p7 : ∀ W, (Go.part 3 #[.int .i64 (v 0), .int .i64 (v 1), .int .i64 (v 2), .int .i64 (v 3), .int .i64 (v 4), .int .i64 (v 5), .int .i64 (v 6), .int .i64 (v 7), .int .i64 (v 8)] 7).run Tryd.prog W = .ok (.int .i64 (v 7)) W := fun W => by kernel_rfl
  have p8 : ∀ W, (Go.part 3 #[.int .i64 (v 0), .int .i64 (v 1), .int .i64 (v 2), .int .i64 (v 3), .int .i64 (v 4), .int .i64 (v 5), .int .i64 (v 6), .int .i64 (v 7), .int .i64 (v 8)] 8).run Tryd.prog W = .ok (.int .i64 (v 8)) W := fun W => by kernel_rfl
  rw [run_eql_struct, run_equalIn_array W 9999 _ _ Tryd.underlying42 hi, cells3]
  show ((Op.eqItems 9999 3 1 _ _ [0, 1, 2, 3, 4, 5, 6, 7, 8]).run Tryd.prog W).andThen _ = _
  simp only [Op.eqItems, Nat.mul_one, Sem.run_bind, Result.andThen_ok, p0, p1, p2, p3, p4, p5, p6, p7, p8, run_equalIn_int W 9998 3 .i64 .i64 _ _ Tryd.underlying3, beq_self_eq_true, Bool.not_true, Bool.false_eq_true, if_false, Sem.run_pure]

theorem all_both (b : Nat → Int) (s e l : Int) : ∃ (v : Nat → Int) (E : Int), Hid (∀ w, Calls Tryd.prog 23 #[.agg #[.int .i64 (b 0), .int .i64 (b 1), .int .i64 (b 2), .int .i64 (b 3), .int .i64 (b 4), .int .i64 (b 5), .int .i64 (b 6), .int .i64 (b 7), .int .i64 (b 8)], .agg #[.int .i64 s, .int .i64 e], .int .i64 l] w fun r w' => r = .returned (.tuple #[.agg #[.int .i64 (v 0), .int .i64 (v 1), .int .i64 (v 2), .int .i64 (v 3), .int .i64 (v 4), .int .i64 (v 5), .int .i64 (v 6), .int .i64 (v 7), .int .i64 (v 8)], .int .i64 E]) ∧ Below w.heap.size w w') ∧
    Hid (∀ w, Calls Tryd.prog 41 #[.agg #[.int .i64 (b 0), .int .i64 (b 1), .int .i64 (b 2), .int .i64 (b 3), .int .i64 (b 4), .int .i64 (b 5), .int .i64 (b 6), .int .i64 (b 7), .int .i64 (b 8)], .agg #[.int .i64 s, .int .i64 e], .int .i64 l] w fun r w' => r = .returned (.tuple #[.agg #[.int .i64 (v 0), .int .i64 (v 1), .int .i64 (v 2), .int .i64 (v 3), .int .i64 (v 4), .int .i64 (v 5), .int .i64 (v 6), .int .i64 (v 7), .int .i64 (v 8)], .int .i64 E]) ∧ Below w.heap.size w w') := by
  cases h : rgt b && lvs s e l
  · exact ⟨fun _ => 0, 2, fun w => all_no b s e l w h, fun w => rall_no b s e l w h⟩
  · rw [Bool.and_eq_true] at h
    exact ⟨fun i => scl (b i) s e l, 0, fun w => all_yes b s e l w h.1 h.2, fun w => rall_yes b s e l w h.1 h.2⟩
structure BaR (w1 : World) (x1 x2 E : Int) (A V : Array Value) (R : Bool) (D : Nat → Prop) (v49 v50 v51 v52 v53 v54 v55 v56 v57 v58 v59 v60 v61 v62 v63 v64 v65 v66 v67 v68 v69 v70 v71 v72 v73 : Value) (w' : World) : Prop where
  b : Below w1.heap.size w1 w'
  e0 : D 0 → v49 = .int .i64 x1
  e1 : D 1 → v50 = .int .i64 x1
  e2 : D 2 → v51 = .bool true
  e3 : D 3 → v52 = .bool true
  e4 : D 4 → v53 = .agg V
  e5 : D 5 → v54 = .agg V
  e6 : D 6 → v55 = .bool true
  e7 : D 7 → v56 = .bool true
  e8 : D 8 → v57 = .bool true
  e9 : D 9 → v58 = .int .i64 x2
  e10 : D 10 → v59 = .int .i64 x2
  e11 : D 11 → v60 = .bool true
  e12 : D 12 → v61 = .bool true
  e13 : D 13 → v62 = .bool true
  e14 : D 14 → v63 = .int .i64 E
  e15 : D 15 → v64 = .int .i64 E
  e16 : D 16 → v65 = .bool true
  e17 : D 17 → v66 = .bool true
  e18 : D 18 → v67 = .bool true
  e19 : D 19 → v68 = .agg A
  e20 : D 20 → v69 = .bool R
  e21 : D 21 → v70 = .agg A
  e22 : D 22 → v71 = .bool R
  e23 : D 23 → v72 = .bool true
  e24 : D 24 → v73 = .bool true
theorem BaR.s0 {w1 : World} {x1 x2 E : Int} {A V : Array Value} {R : Bool} {D : Nat → Prop} {v49 v50 v51 v52 v53 v54 v55 v56 v57 v58 v59 v60 v61 v62 v63 v64 v65 v66 v67 v68 v69 v70 v71 v72 v73 : Value} {w' w'' : World} (h : BaR w1 x1 x2 E A V R D v49 v50 v51 v52 v53 v54 v55 v56 v57 v58 v59 v60 v61 v62 v63 v64 v65 v66 v67 v68 v69 v70 v71 v72 v73 w') (hb : Below w'.heap.size w' w'') : BaR w1 x1 x2 E A V R (fun j => D j ∨ j = 0) (.int .i64 x1) v50 v51 v52 v53 v54 v55 v56 v57 v58 v59 v60 v61 v62 v63 v64 v65 v66 v67 v68 v69 v70 v71 v72 v73 w'' :=
  ⟨bthen h.b hb, fun _ => rfl, or_keep h.e1 (by decide), or_keep h.e2 (by decide), or_keep h.e3 (by decide), or_keep h.e4 (by decide), or_keep h.e5 (by decide), or_keep h.e6 (by decide), or_keep h.e7 (by decide), or_keep h.e8 (by decide), or_keep h.e9 (by decide), or_keep h.e10 (by decide), or_keep h.e11 (by decide), or_keep h.e12 (by decide), or_keep h.e13 (by decide), or_keep h.e14 (by decide), or_keep h.e15 (by decide), or_keep h.e16 (by decide), or_keep h.e17 (by decide), or_keep h.e18 (by decide), or_keep h.e19 (by decide), or_keep h.e20 (by decide), or_keep h.e21 (by decide), or_keep h.e22 (by decide), or_keep h.e23 (by decide), or_keep h.e24 (by decide)⟩
theorem BaR.s1 {w1 : World} {x1 x2 E : Int} {A V : Array Value} {R : Bool} {D : Nat → Prop} {v49 v50 v51 v52 v53 v54 v55 v56 v57 v58 v59 v60 v61 v62 v63 v64 v65 v66 v67 v68 v69 v70 v71 v72 v73 : Value} {w' w'' : World} (h : BaR w1 x1 x2 E A V R D v49 v50 v51 v52 v53 v54 v55 v56 v57 v58 v59 v60 v61 v62 v63 v64 v65 v66 v67 v68 v69 v70 v71 v72 v73 w') (hb : Below w'.heap.size w' w'') : BaR w1 x1 x2 E A V R (fun j => D j ∨ j = 1) v49 (.int .i64 x1) v51 v52 v53 v54 v55 v56 v57 v58 v59 v60 v61 v62 v63 v64 v65 v66 v67 v68 v69 v70 v71 v72 v73 w'' :=
  ⟨bthen h.b hb, or_keep h.e0 (by decide), fun _ => rfl, or_keep h.e2 (by decide), or_keep h.e3 (by decide), or_keep h.e4 (by decide), or_keep h.e5 (by decide), or_keep h.e6 (by decide), or_keep h.e7 (by decide), or_keep h.e8 (by decide), or_keep h.e9 (by decide), or_keep h.e10 (by decide), or_keep h.e11 (by decide), or_keep h.e12 (by decide), or_keep h.e13 (by decide), or_keep h.e14 (by decide), or_keep h.e15 (by decide), or_keep h.e16 (by decide), or_keep h.e17 (by decide), or_keep h.e18 (by decide), or_keep h.e19 (by decide), or_keep h.e20 (by decide), or_keep h.e21 (by decide), or_keep h.e22 (by decide), or_keep h.e23 (by decide), or_keep h.e24 (by decide)⟩
theorem BaR.s2 {w1 : World} {x1 x2 E : Int} {A V : Array Value} {R : Bool} {D : Nat → Prop} {v49 v50 v51 v52 v53 v54 v55 v56 v57 v58 v59 v60 v61 v62 v63 v64 v65 v66 v67 v68 v69 v70 v71 v72 v73 : Value} {w' w'' : World} (h : BaR w1 x1 x2 E A V R D v49 v50 v51 v52 v53 v54 v55 v56 v57 v58 v59 v60 v61 v62 v63 v64 v65 v66 v67 v68 v69 v70 v71 v72 v73 w') (hb : Below w'.heap.size w' w'') : BaR w1 x1 x2 E A V R (fun j => D j ∨ j = 2) v49 v50 (.bool true) v52 v53 v54 v55 v56 v57 v58 v59 v60 v61 v62 v63 v64 v65 v66 v67 v68 v69 v70 v71 v72 v73 w'' :=
  ⟨bthen h.b hb, or_keep h.e0 (by decide), or_keep h.e1 (by decide), fun _ => rfl, or_keep h.e3 (by decide), or_keep h.e4 (by decide), or_keep h.e5 (by decide), or_keep h.e6 (by decide), or_keep h.e7 (by decide), or_keep h.e8 (by decide), or_keep h.e9 (by decide), or_keep h.e10 (by decide), or_keep h.e11 (by decide), or_keep h.e12 (by decide), or_keep h.e13 (by decide), or_keep h.e14 (by decide), or_keep h.e15 (by decide), or_keep h.e16 (by decide), or_keep h.e17 (by decide), or_keep h.e18 (by decide), or_keep h.e19 (by decide), or_keep h.e20 (by decide), or_keep h.e21 (by decide), or_keep h.e22 (by decide), or_keep h.e23 (by decide), or_keep h.e24 (by decide)⟩
theorem BaR.s3 {w1 : World} {x1 x2 E : Int} {A V : Array Value} {R : Bool} {D : Nat → Prop} {v49 v50 v51 v52 v53 v54 v55 v56 v57 v58 v59 v60 v61 v62 v63 v64 v65 v66 v67 v68 v69 v70 v71 v72 v73 : Value} {w' w'' : World} (h : BaR w1 x1 x2 E A V R D v49 v50 v51 v52 v53 v54 v55 v56 v57 v58 v59 v60 v61 v62 v63 v64 v65 v66 v67 v68 v69 v70 v71 v72 v73 w') (hb : Below w'.heap.size w' w'') : BaR w1 x1 x2 E A V R (fun j => D j ∨ j = 3) v49 v50 v51 (.bool true) v53 v54 v55 v56 v57 v58 v59 v60 v61 v62 v63 v64 v65 v66 v67 v68 v69 v70 v71 v72 v73 w'' :=
  ⟨bthen h.b hb, or_keep h.e0 (by decide), or_keep h.e1 (by decide), or_keep h.e2 (by decide), fun _ => rfl, or_keep h.e4 (by decide), or_keep h.e5 (by decide), or_keep h.e6 (by decide), or_keep h.e7 (by decide), or_keep h.e8 (by decide), or_keep h.e9 (by decide), or_keep h.e10 (by decide), or_keep h.e11 (by decide), or_keep h.e12 (by decide), or_keep h.e13 (by decide), or_keep h.e14 (by decide), or_keep h.e15 (by decide), or_keep h.e16 (by decide), or_keep h.e17 (by decide), or_keep h.e18 (by decide), or_keep h.e19 (by decide), or_keep h.e20 (by decide), or_keep h.e21 (by decide), or_keep h.e22 (by decide), or_keep h.e23 (by decide), or_keep h.e24 (by decide)⟩
theorem BaR.s4 {w1 : World} {x1 x2 E : Int} {A V : Array Value} {R : Bool} {D : Nat → Prop} {v49 v50 v51 v52 v53 v54 v55 v56 v57 v58 v59 v60 v61 v62 v63 v64 v65 v66 v67 v68 v69 v70 v71 v72 v73 : Value} {w' w'' : World} (h : BaR w1 x1 x2 E A V R D v49 v50 v51 v52 v53 v54 v55 v56 v57 v58 v59 v60 v61 v62 v63 v64 v65 v66 v67 v68 v69 v70 v71 v72 v73 w') (hb : Below w'.heap.size w' w'') : BaR w1 x1 x2 E A V R (fun j => D j ∨ j = 4) v49 v50 v51 v52 (.agg V) v54 v55 v56 v57 v58 v59 v60 v61 v62 v63 v64 v65 v66 v67 v68 v69 v70 v71 v72 v73 w'' :=
  ⟨bthen h.b hb, or_keep h.e0 (by decide), or_keep h.e1 (by decide), or_keep h.e2 (by decide), or_keep h.e3 (by decide), fun _ => rfl, or_keep h.e5 (by decide), or_keep h.e6 (by decide), or_keep h.e7 (by decide), or_keep h.e8 (by decide), or_keep h.e9 (by decide), or_keep h.e10 (by decide), or_keep h.e11 (by decide), or_keep h.e12 (by decide), or_keep h.e13 (by decide), or_keep h.e14 (by decide), or_keep h.e15 (by decide), or_keep h.e16 (by decide), or_keep h.e17 (by decide), or_keep h.e18 (by decide), or_keep h.e19 (by decide), or_keep h.e20 (by decide), or_keep h.e21 (by decide), or_keep h.e22 (by decide), or_keep h.e23 (by decide), or_keep h.e24 (by decide)⟩
theorem BaR.s5 {w1 : World} {x1 x2 E : Int} {A V : Array Value} {R : Bool} {D : Nat → Prop} {v49 v50 v51 v52 v53 v54 v55 v56 v57 v58 v59 v60 v61 v62 v63 v64 v65 v66 v67 v68 v69 v70 v71 v72 v73 : Value} {w' w'' : World} (h : BaR w1 x1 x2 E A V R D v49 v50 v51 v52 v53 v54 v55 v56 v57 v58 v59 v60 v61 v62 v63 v64 v65 v66 v67 v68 v69 v70 v71 v72 v73 w') (hb : Below w'.heap.size w' w'') : BaR w1 x1 x2 E A V R (fun j => D j ∨ j = 5) v49 v50 v51 v52 v53 (.agg V) v55 v56 v57 v58 v59 v60 v61 v62 v63 v64 v65 v66 v67 v68 v69 v70 v71 v72 v73 w'' :=
  ⟨bthen h.b hb, or_keep h.e0 (by decide), or_keep h.e1 (by decide), or_keep h.e2 (by decide), or_keep h.e3 (by decide), or_keep h.e4 (by decide), fun _ => rfl, or_keep h.e6 (by decide), or_keep h.e7 (by decide), or_keep h.e8 (by decide), or_keep h.e9 (by decide), or_keep h.e10 (by decide), or_keep h.e11 (by decide), or_keep h.e12 (by decide), or_keep h.e13 (by decide), or_keep h.e14 (by decide), or_keep h.e15 (by decide), or_keep h.e16 (by decide), or_keep h.e17 (by decide), or_keep h.e18 (by decide), or_keep h.e19 (by decide), or_keep h.e20 (by decide), or_keep h.e21 (by decide), or_keep h.e22 (by decide), or_keep h.e23 (by decide), or_keep h.e24 (by decide)⟩
theorem BaR.s6 {w1 : World} {x1 x2 E : Int} {A V : Array Value} {R : Bool} {D : Nat → Prop} {v49 v50 v51 v52 v53 v54 v55 v56 v57 v58 v59 v60 v61 v62 v63 v64 v65 v66 v67 v68 v69 v70 v71 v72 v73 : Value} {w' w'' : World} (h : BaR w1 x1 x2 E A V R D v49 v50 v51 v52 v53 v54 v55 v56 v57 v58 v59 v60 v61 v62 v63 v64 v65 v66 v67 v68 v69 v70 v71 v72 v73 w') (hb : Below w'.heap.size w' w'') : BaR w1 x1 x2 E A V R (fun j => D j ∨ j = 6) v49 v50 v51 v52 v53 v54 (.bool true) v56 v57 v58 v59 v60 v61 v62 v63 v64 v65 v66 v67 v68 v69 v70 v71 v72 v73 w'' :=
  ⟨bthen h.b hb, or_keep h.e0 (by decide), or_keep h.e1 (by decide), or_keep h.e2 (by decide), or_keep h.e3 (by decide), or_keep h.e4 (by decide), or_keep h.e5 (by decide), fun _ => rfl, or_keep h.e7 (by decide), or_keep h.e8 (by decide), or_keep h.e9 (by decide), or_keep h.e10 (by decide), or_keep h.e11 (by decide), or_keep h.e12 (by decide), or_keep h.e13 (by decide), or_keep h.e14 (by decide), or_keep h.e15 (by decide), or_keep h.e16 (by decide), or_keep h.e17 (by decide), or_keep h.e18 (by decide), or_keep h.e19 (by decide), or_keep h.e20 (by decide), or_keep h.e21 (by decide), or_keep h.e22 (by decide), or_keep h.e23 (by decide), or_keep h.e24 (by decide)⟩
theorem BaR.s7 {w1 : World} {x1 x2 E : Int} {A V : Array Value} {R : Bool} {D : Nat → Prop} {v49 v50 v51 v52 v53 v54 v55 v56 v57 v58 v59 v60 v61 v62 v63 v64 v65 v66 v67 v68 v69 v70 v71 v72 v73 : Value} {w' w'' : World} (h : BaR w1 x1 x2 E A V R D v49 v50 v51 v52 v53 v54 v55 v56 v57 v58 v59 v60 v61 v62 v63 v64 v65 v66 v67 v68 v69 v70 v71 v72 v73 w') (hb : Below w'.heap.size w' w'') : BaR w1 x1 x2 E A V R (fun j => D j ∨ j = 7) v49 v50 v51 v52 v53 v54 v55 (.bool true) v57 v58 v59 v60 v61 v62 v63 v64 v65 v66 v67 v68 v69 v70 v71 v72 v73 w'' :=
  ⟨bthen h.b hb, or_keep h.e0 (by decide), or_keep h.e1 (by decide), or_keep h.e2 (by decide), or_keep h.e3 (by decide), or_keep h.e4 (by decide), or_keep h.e5 (by decide), or_keep h.e6 (by decide), fun _ => rfl, or_keep h.e8 (by decide), or_keep h.e9 (by decide), or_keep h.e10 (by decide), or_keep h.e11 (by decide), or_keep h.e12 (by decide), or_keep h.e13 (by decide), or_keep h.e14 (by decide), or_keep h.e15 (by decide), or_keep h.e16 (by decide), or_keep h.e17 (by decide), or_keep h.e18 (by decide), or_keep h.e19 (by decide), or_keep h.e20 (by decide), or_keep h.e21 (by decide), or_keep h.e22 (by decide), or_keep h.e23 (by decide), or_keep h.e24 (by decide)⟩
theorem BaR.s8 {w1 : World} {x1 x2 E : Int} {A V : Array Value} {R : Bool} {D : Nat → Prop} {v49 v50 v51 v52 v53 v54 v55 v56 v57 v58 v59 v60 v61 v62 v63 v64 v65 v66 v67 v68 v69 v70 v71 v72 v73 : Value} {w' w'' : World} (h : BaR w1 x1 x2 E A V R D v49 v50 v51 v52 v53 v54 v55 v56 v57 v58 v59 v60 v61 v62 v63 v64 v65 v66 v67 v68 v69 v70 v71 v72 v73 w') (hb : Below w'.heap.size w' w'') : BaR w1 x1 x2 E A V R (fun j => D j ∨ j = 8) v49 v50 v51 v52 v53 v54 v55 v56 (.bool true) v58 v59 v60 v61 v62 v63 v64 v65 v66 v67 v68 v69 v70 v71 v72 v73 w'' :=
  ⟨bthen h.b hb, or_keep h.e0 (by decide), or_keep h.e1 (by decide), or_keep h.e2 (by decide), or_keep h.e3 (by decide), or_keep h.e4 (by decide), or_keep h.e5 (by decide), or_keep h.e6 (by decide), or_keep h.e7 (by decide), fun _ => rfl, or_keep h.e9 (by decide), or_keep h.e10 (by decide), or_keep h.e11 (by decide), or_keep h.e12 (by decide), or_keep h.e13 (by decide), or_keep h.e14 (by decide), or_keep h.e15 (by decide), or_keep h.e16 (by decide), or_keep h.e17 (by decide), or_keep h.e18 (by decide), or_keep h.e19 (by decide), or_keep h.e20 (by decide), or_keep h.e21 (by decide), or_keep h.e22 (by decide), or_keep h.e23 (by decide), or_keep h.e24 (by decide)⟩
theorem BaR.s9 {w1 : World} {x1 x2 E : Int} {A V : Array Value} {R : Bool} {D : Nat → Prop} {v49 v50 v51 v52 v53 v54 v55 v56 v57 v58 v59 v60 v61 v62 v63 v64 v65 v66 v67 v68 v69 v70 v71 v72 v73 : Value} {w' w'' : World} (h : BaR w1 x1 x2 E A V R D v49 v50 v51 v52 v53 v54 v55 v56 v57 v58 v59 v60 v61 v62 v63 v64 v65 v66 v67 v68 v69 v70 v71 v72 v73 w') (hb : Below w'.heap.size w' w'') : BaR w1 x1 x2 E A V R (fun j => D j ∨ j = 9) v49 v50 v51 v52 v53 v54 v55 v56 v57 (.int .i64 x2) v59 v60 v61 v62 v63 v64 v65 v66 v67 v68 v69 v70 v71 v72 v73 w'' :=
  ⟨bthen h.b hb, or_keep h.e0 (by decide), or_keep h.e1 (by decide), or_keep h.e2 (by decide), or_keep h.e3 (by decide), or_keep h.e4 (by decide), or_keep h.e5 (by decide), or_keep h.e6 (by decide), or_keep h.e7 (by decide), or_keep h.e8 (by decide), fun _ => rfl, or_keep h.e10 (by decide), or_keep h.e11 (by decide), or_keep h.e12 (by decide), or_keep h.e13 (by decide), or_keep h.e14 (by decide), or_keep h.e15 (by decide), or_keep h.e16 (by decide), or_keep h.e17 (by decide), or_keep h.e18 (by decide), or_keep h.e19 (by decide), or_keep h.e20 (by decide), or_keep h.e21 (by decide), or_keep h.e22 (by decide), or_keep h.e23 (by decide), or_keep h.e24 (by decide)⟩
theorem BaR.s10 {w1 : World} {x1 x2 E : Int} {A V : Array Value} {R : Bool} {D : Nat → Prop} {v49 v50 v51 v52 v53 v54 v55 v56 v57 v58 v59 v60 v61 v62 v63 v64 v65 v66 v67 v68 v69 v70 v71 v72 v73 : Value} {w' w'' : World} (h : BaR w1 x1 x2 E A V R D v49 v50 v51 v52 v53 v54 v55 v56 v57 v58 v59 v60 v61 v62 v63 v64 v65 v66 v67 v68 v69 v70 v71 v72 v73 w') (hb : Below w'.heap.size w' w'') : BaR w1 x1 x2 E A V R (fun j => D j ∨ j = 10) v49 v50 v51 v52 v53 v54 v55 v56 v57 v58 (.int .i64 x2) v60 v61 v62 v63 v64 v65 v66 v67 v68 v69 v70 v71 v72 v73 w'' :=
  ⟨bthen h.b hb, or_keep h.e0 (by decide), or_keep h.e1 (by decide), or_keep h.e2 (by decide), or_keep h.e3 (by decide), or_keep h.e4 (by decide), or_keep h.e5 (by decide), or_keep h.e6 (by decide), or_keep h.e7 (by decide), or_keep h.e8 (by decide), or_keep h.e9 (by decide), fun _ => rfl, or_keep h.e11 (by decide), or_keep h.e12 (by decide), or_keep h.e13 (by decide), or_keep h.e14 (by decide), or_keep h.e15 (by decide), or_keep h.e16 (by decide), or_keep h.e17 (by decide), or_keep h.e18 (by decide), or_keep h.e19 (by decide), or_keep h.e20 (by decide), or_keep h.e21 (by decide), or_keep h.e22 (by decide), or_keep h.e23 (by decide), or_keep h.e24 (by decide)⟩
theorem BaR.s11 {w1 : World} {x1 x2 E : Int} {A V : Array Value} {R : Bool} {D : Nat → Prop} {v49 v50 v51 v52 v53 v54 v55 v56 v57 v58 v59 v60 v61 v62 v63 v64 v65 v66 v67 v68 v69 v70 v71 v72 v73 : Value} {w' w'' : World} (h : BaR w1 x1 x2 E A V R D v49 v50 v51 v52 v53 v54 v55 v56 v57 v58 v59 v60 v61 v62 v63 v64 v65 v66 v67 v68 v69 v70 v71 v72 v73 w') (hb : Below w'.heap.size w' w'') : BaR w1 x1 x2 E A V R (fun j => D j ∨ j = 11) v49 v50 v51 v52 v53 v54 v55 v56 v57 v58 v59 (.bool true) v61 v62 v63 v64 v65 v66 v67 v68 v69 v70 v71 v72 v73 w'' :=
  ⟨bthen h.b hb, or_keep h.e0 (by decide), or_keep h.e1 (by decide), or_keep h.e2 (by decide), or_keep h.e3 (by decide), or_keep h.e4 (by decide), or_keep h.e5 (by decide), or_keep h.e6 (by decide), or_keep h.e7 (by decide), or_keep h.e8 (by decide), or_keep h.e9 (by decide), or_keep h.e10 (by decide), fun _ => rfl, or_keep h.e12 (by decide), or_keep h.e13 (by decide), or_keep h.e14 (by decide), or_keep h.e15 (by decide), or_keep h.e16 (by decide), or_keep h.e17 (by decide), or_keep h.e18 (by decide), or_keep h.e19 (by decide), or_keep h.e20 (by decide), or_keep h.e21 (by decide), or_keep h.e22 (by decide), or_keep h.e23 (by decide), or_keep h.e24 (by decide)⟩
theorem BaR.s12 {w1 : World} {x1 x2 E : Int} {A V : Array Value} {R : Bool} {D : Nat → Prop} {v49 v50 v51 v52 v53 v54 v55 v56 v57 v58 v59 v60 v61 v62 v63 v64 v65 v66 v67 v68 v69 v70 v71 v72 v73 : Value} {w' w'' : World} (h : BaR w1 x1 x2 E A V R D v49 v50 v51 v52 v53 v54 v55 v56 v57 v58 v59 v60 v61 v62 v63 v64 v65 v66 v67 v68 v69 v70 v71 v72 v73 w') (hb : Below w'.heap.size w' w'') : BaR w1 x1 x2 E A V R (fun j => D j ∨ j = 12) v49 v50 v51 v52 v53 v54 v55 v56 v57 v58 v59 v60 (.bool true) v62 v63 v64 v65 v66 v67 v68 v69 v70 v71 v72 v73 w'' :=
  ⟨bthen h.b hb, or_keep h.e0 (by decide), or_keep h.e1 (by decide), or_keep h.e2 (by decide), or_keep h.e3 (by decide), or_keep h.e4 (by decide), or_keep h.e5 (by decide), or_keep h.e6 (by decide), or_keep h.e7 (by decide), or_keep h.e8 (by decide), or_keep h.e9 (by decide), or_keep h.e10 (by decide), or_keep h.e11 (by decide), fun _ => rfl, or_keep h.e13 (by decide), or_keep h.e14 (by decide), or_keep h.e15 (by decide), or_keep h.e16 (by decide), or_keep h.e17 (by decide), or_keep h.e18 (by decide), or_keep h.e19 (by decide), or_keep h.e20 (by decide), or_keep h.e21 (by decide), or_keep h.e22 (by decide), or_keep h.e23 (by decide), or_keep h.e24 (by decide)⟩
theorem BaR.s13 {w1 : World} {x1 x2 E : Int} {A V : Array Value} {R : Bool} {D : Nat → Prop} {v49 v50 v51 v52 v53 v54 v55 v56 v57 v58 v59 v60 v61 v62 v63 v64 v65 v66 v67 v68 v69 v70 v71 v72 v73 : Value} {w' w'' : World} (h : BaR w1 x1 x2 E A V R D v49 v50 v51 v52 v53 v54 v55 v56 v57 v58 v59 v60 v61 v62 v63 v64 v65 v66 v67 v68 v69 v70 v71 v72 v73 w') (hb : Below w'.heap.size w' w'') : BaR w1 x1 x2 E A V R (fun j => D j ∨ j = 13) v49 v50 v51 v52 v53 v54 v55 v56 v57 v58 v59 v60 v61 (.bool true) v63 v64 v65 v66 v67 v68 v69 v70 v71 v72 v73 w'' :=
  ⟨bthen h.b hb, or_keep h.e0 (by decide), or_keep h.e1 (by decide), or_keep h.e2 (by decide), or_keep h.e3 (by decide), or_keep h.e4 (by decide), or_keep h.e5 (by decide), or_keep h.e6 (by decide), or_keep h.e7 (by decide), or_keep h.e8 (by decide), or_keep h.e9 (by decide), or_keep h.e10 (by decide), or_keep h.e11 (by decide), or_keep h.e12 (by decide), fun _ => rfl, or_keep h.e14 (by decide), or_keep h.e15 (by decide), or_keep h.e16 (by decide), or_keep h.e17 (by decide), or_keep h.e18 (by decide), or_keep h.e19 (by decide), or_keep h.e20 (by decide), or_keep h.e21 (by decide), or_keep h.e22 (by decide), or_keep h.e23 (by decide), or_keep h.e24 (by decide)⟩
theorem BaR.s14 {w1 : World} {x1 x2 E : Int} {A V : Array Value} {R : Bool} {D : Nat → Prop} {v49 v50 v51 v52 v53 v54 v55 v56 v57 v58 v59 v60 v61 v62 v63 v64 v65 v66 v67 v68 v69 v70 v71 v72 v73 : Value} {w' w'' : World} (h : BaR w1 x1 x2 E A V R D v49 v50 v51 v52 v53 v54 v55 v56 v57 v58 v59 v60 v61 v62 v63 v64 v65 v66 v67 v68 v69 v70 v71 v72 v73 w') (hb : Below w'.heap.size w' w'') : BaR w1 x1 x2 E A V R (fun j => D j ∨ j = 14) v49 v50 v51 v52 v53 v54 v55 v56 v57 v58 v59 v60 v61 v62 (.int .i64 E) v64 v65 v66 v67 v68 v69 v70 v71 v72 v73 w'' :=
  ⟨bthen h.b hb, or_keep h.e0 (by decide), or_keep h.e1 (by decide), or_keep h.e2 (by decide), or_keep h.e3 (by decide), or_keep h.e4 (by decide), or_keep h.e5 (by decide), or_keep h.e6 (by decide), or_keep h.e7 (by decide), or_keep h.e8 (by decide), or_keep h.e9 (by decide), or_keep h.e10 (by decide), or_keep h.e11 (by decide), or_keep h.e12 (by decide), or_keep h.e13 (by decide), fun _ => rfl, or_keep h.e15 (by decide), or_keep h.e16 (by decide), or_keep h.e17 (by decide), or_keep h.e18 (by decide), or_keep h.e19 (by decide), or_keep h.e20 (by decide), or_keep h.e21 (by decide), or_keep h.e22 (by decide), or_keep h.e23 (by decide), or_keep h.e24 (by decide)⟩
theorem BaR.s15 {w1 : World} {x1 x2 E : Int} {A V : Array Value} {R : Bool} {D : Nat → Prop} {v49 v50 v51 v52 v53 v54 v55 v56 v57 v58 v59 v60 v61 v62 v63 v64 v65 v66 v67 v68 v69 v70 v71 v72 v73 : Value} {w' w'' : World} (h : BaR w1 x1 x2 E A V R D v49 v50 v51 v52 v53 v54 v55 v56 v57 v58 v59 v60 v61 v62 v63 v64 v65 v66 v67 v68 v69 v70 v71 v72 v73 w') (hb : Below w'.heap.size w' w'') : BaR w1 x1 x2 E A V R (fun j => D j ∨ j = 15) v49 v50 v51 v52 v53 v54 v55 v56 v57 v58 v59 v60 v61 v62 v63 (.int .i64 E) v65 v66 v67 v68 v69 v70 v71 v72 v73 w'' :=
  ⟨bthen h.b hb, or_keep h.e0 (by decide), or_keep h.e1 (by decide), or_keep h.e2 (by decide), or_keep h.e3 (by decide), or_keep h.e4 (by decide), or_keep h.e5 (by decide), or_keep h.e6 (by decide), or_keep h.e7 (by decide), or_keep h.e8 (by decide), or_keep h.e9 (by decide), or_keep h.e10 (by decide), or_keep h.e11 (by decide), or_keep h.e12 (by decide), or_keep h.e13 (by decide), or_keep h.e14 (by decide), fun _ => rfl, or_keep h.e16 (by decide), or_keep h.e17 (by decide), or_keep h.e18 (by decide), or_keep h.e19 (by decide), or_keep h.e20 (by decide), or_keep h.e21 (by decide), or_keep h.e22 (by decide), or_keep h.e23 (by decide), or_keep h.e24 (by decide)⟩
theorem BaR.s16 {w1 : World} {x1 x2 E : Int} {A V : Array Value} {R : Bool} {D : Nat → Prop} {v49 v50 v51 v52 v53 v54 v55 v56 v57 v58 v59 v60 v61 v62 v63 v64 v65 v66 v67 v68 v69 v70 v71 v72 v73 : Value} {w' w'' : World} (h : BaR w1 x1 x2 E A V R D v49 v50 v51 v52 v53 v54 v55 v56 v57 v58 v59 v60 v61 v62 v63 v64 v65 v66 v67 v68 v69 v70 v71 v72 v73 w') (hb : Below w'.heap.size w' w'') : BaR w1 x1 x2 E A V R (fun j => D j ∨ j = 16) v49 v50 v51 v52 v53 v54 v55 v56 v57 v58 v59 v60 v61 v62 v63 v64 (.bool true) v66 v67 v68 v69 v70 v71 v72 v73 w'' :=
  ⟨bthen h.b hb, or_keep h.e0 (by decide), or_keep h.e1 (by decide), or_keep h.e2 (by decide), or_keep h.e3 (by decide), or_keep h.e4 (by decide), or_keep h.e5 (by decide), or_keep h.e6 (by decide), or_keep h.e7 (by decide), or_keep h.e8 (by decide), or_keep h.e9 (by decide), or_keep h.e10 (by decide), or_keep h.e11 (by decide), or_keep h.e12 (by decide), or_keep h.e13 (by decide), or_keep h.e14 (by decide), or_keep h.e15 (by decide), fun _ => rfl, or_keep h.e17 (by decide), or_keep h.e18 (by decide), or_keep h.e19 (by decide), or_keep h.e20 (by decide), or_keep h.e21 (by decide), or_keep h.e22 (by decide), or_keep h.e23 (by decide), or_keep h.e24 (by decide)⟩
theorem BaR.s17 {w1 : World} {x1 x2 E : Int} {A V : Array Value} {R : Bool} {D : Nat → Prop} {v49 v50 v51 v52 v53 v54 v55 v56 v57 v58 v59 v60 v61 v62 v63 v64 v65 v66 v67 v68 v69 v70 v71 v72 v73 : Value} {w' w'' : World} (h : BaR w1 x1 x2 E A V R D v49 v50 v51 v52 v53 v54 v55 v56 v57 v58 v59 v60 v61 v62 v63 v64 v65 v66 v67 v68 v69 v70 v71 v72 v73 w') (hb : Below w'.heap.size w' w'') : BaR w1 x1 x2 E A V R (fun j => D j ∨ j = 17) v49 v50 v51 v52 v53 v54 v55 v56 v57 v58 v59 v60 v61 v62 v63 v64 v65 (.bool true) v67 v68 v69 v70 v71 v72 v73 w'' :=
  ⟨bthen h.b hb, or_keep h.e0 (by decide), or_keep h.e1 (by decide), or_keep h.e2 (by decide), or_keep h.e3 (by decide), or_keep h.e4 (by decide), or_keep h.e5 (by decide), or_keep h.e6 (by decide), or_keep h.e7 (by decide), or_keep h.e8 (by decide), or_keep h.e9 (by decide), or_keep h.e10 (by decide), or_keep h.e11 (by decide), or_keep h.e12 (by decide), or_keep h.e13 (by decide), or_keep h.e14 (by decide), or_keep h.e15 (by decide), or_keep h.e16 (by decide), fun _ => rfl, or_keep h.e18 (by decide), or_keep h.e19 (by decide), or_keep h.e20 (by decide), or_keep h.e21 (by decide), or_keep h.e22 (by decide), or_keep h.e23 (by decide), or_keep h.e24 (by decide)⟩
theorem BaR.s18 {w1 : World} {x1 x2 E : Int} {A V : Array Value} {R : Bool} {D : Nat → Prop} {v49 v50 v51 v52 v53 v54 v55 v56 v57 v58 v59 v60 v61 v62 v63 v64 v65 v66 v67 v68 v69 v70 v71 v72 v73 : Value} {w' w'' : World} (h : BaR w1 x1 x2 E A V R D v49 v50 v51 v52 v53 v54 v55 v56 v57 v58 v59 v60 v61 v62 v63 v64 v65 v66 v67 v68 v69 v70 v71 v72 v73 w') (hb : Below w'.heap.size w' w'') : BaR w1 x1 x2 E A V R (fun j => D j ∨ j = 18) v49 v50 v51 v52 v53 v54 v55 v56 v57 v58 v59 v60 v61 v62 v63 v64 v65 v66 (.bool true) v68 v69 v70 v71 v72 v73 w'' :=
  ⟨bthen h.b hb, or_keep h.e0 (by decide), or_keep h.e1 (by decide), or_keep h.e2 (by decide), or_keep h.e3 (by decide), or_keep h.e4 (by decide), or_keep h.e5 (by decide), or_keep h.e6 (by decide), or_keep h.e7 (by decide), or_keep h.e8 (by decide), or_keep h.e9 (by decide), or_keep h.e10 (by decide), or_keep h.e11 (by decide), or_keep h.e12 (by decide), or_keep h.e13 (by decide), or_keep h.e14 (by decide), or_keep h.e15 (by decide), or_keep h.e16 (by decide), or_keep h.e17 (by decide), fun _ => rfl, or_keep h.e19 (by decide), or_keep h.e20 (by decide), or_keep h.e21 (by decide), or_keep h.e22 (by decide), or_keep h.e23 (by decide), or_keep h.e24 (by decide)⟩
theorem BaR.s19 {w1 : World} {x1 x2 E : Int} {A V : Array Value} {R : Bool} {D : Nat → Prop} {v49 v50 v51 v52 v53 v54 v55 v56 v57 v58 v59 v60 v61 v62 v63 v64 v65 v66 v67 v68 v69 v70 v71 v72 v73 : Value} {w' w'' : World} (h : BaR w1 x1 x2 E A V R D v49 v50 v51 v52 v53 v54 v55 v56 v57 v58 v59 v60 v61 v62 v63 v64 v65 v66 v67 v68 v69 v70 v71 v72 v73 w') (hb : Below w'.heap.size w' w'') : BaR w1 x1 x2 E A V R (fun j => D j ∨ j = 19) v49 v50 v51 v52 v53 v54 v55 v56 v57 v58 v59 v60 v61 v62 v63 v64 v65 v66 v67 (.agg A) v69 v70 v71 v72 v73 w'' :=
  ⟨bthen h.b hb, or_keep h.e0 (by decide), or_keep h.e1 (by decide), or_keep h.e2 (by decide), or_keep h.e3 (by decide), or_keep h.e4 (by decide), or_keep h.e5 (by decide), or_keep h.e6 (by decide), or_keep h.e7 (by decide), or_keep h.e8 (by decide), or_keep h.e9 (by decide), or_keep h.e10 (by decide), or_keep h.e11 (by decide), or_keep h.e12 (by decide), or_keep h.e13 (by decide), or_keep h.e14 (by decide), or_keep h.e15 (by decide), or_keep h.e16 (by decide), or_keep h.e17 (by decide), or_keep h.e18 (by decide), fun _ => rfl, or_keep h.e20 (by decide), or_keep h.e21 (by decide), or_keep h.e22 (by decide), or_keep h.e23 (by decide), or_keep h.e24 (by decide)⟩
theorem BaR.s20 {w1 : World} {x1 x2 E : Int} {A V : Array Value} {R : Bool} {D : Nat → Prop} {v49 v50 v51 v52 v53 v54 v55 v56 v57 v58 v59 v60 v61 v62 v63 v64 v65 v66 v67 v68 v69 v70 v71 v72 v73 : Value} {w' w'' : World} (h : BaR w1 x1 x2 E A V R D v49 v50 v51 v52 v53 v54 v55 v56 v57 v58 v59 v60 v61 v62 v63 v64 v65 v66 v67 v68 v69 v70 v71 v72 v73 w') (hb : Below w'.heap.size w' w'') : BaR w1 x1 x2 E A V R (fun j => D j ∨ j = 20) v49 v50 v51 v52 v53 v54 v55 v56 v57 v58 v59 v60 v61 v62 v63 v64 v65 v66 v67 v68 (.bool R) v70 v71 v72 v73 w'' :=
  ⟨bthen h.b hb, or_keep h.e0 (by decide), or_keep h.e1 (by decide), or_keep h.e2 (by decide), or_keep h.e3 (by decide), or_keep h.e4 (by decide), or_keep h.e5 (by decide), or_keep h.e6 (by decide), or_keep h.e7 (by decide), or_keep h.e8 (by decide), or_keep h.e9 (by decide), or_keep h.e10 (by decide), or_keep h.e11 (by decide), or_keep h.e12 (by decide), or_keep h.e13 (by decide), or_keep h.e14 (by decide), or_keep h.e15 (by decide), or_keep h.e16 (by decide), or_keep h.e17 (by decide), or_keep h.e18 (by decide), or_keep h.e19 (by decide), fun _ => rfl, or_keep h.e21 (by decide), or_keep h.e22 (by decide), or_keep h.e23 (by decide), or_keep h.e24 (by decide)⟩
theorem BaR.s21 {w1 : World} {x1 x2 E : Int} {A V : Array Value} {R : Bool} {D : Nat → Prop} {v49 v50 v51 v52 v53 v54 v55 v56 v57 v58 v59 v60 v61 v62 v63 v64 v65 v66 v67 v68 v69 v70 v71 v72 v73 : Value} {w' w'' : World} (h : BaR w1 x1 x2 E A V R D v49 v50 v51 v52 v53 v54 v55 v56 v57 v58 v59 v60 v61 v62 v63 v64 v65 v66 v67 v68 v69 v70 v71 v72 v73 w') (hb : Below w'.heap.size w' w'') : BaR w1 x1 x2 E A V R (fun j => D j ∨ j = 21) v49 v50 v51 v52 v53 v54 v55 v56 v57 v58 v59 v60 v61 v62 v63 v64 v65 v66 v67 v68 v69 (.agg A) v71 v72 v73 w'' :=
  ⟨bthen h.b hb, or_keep h.e0 (by decide), or_keep h.e1 (by decide), or_keep h.e2 (by decide), or_keep h.e3 (by decide), or_keep h.e4 (by decide), or_keep h.e5 (by decide), or_keep h.e6 (by decide), or_keep h.e7 (by decide), or_keep h.e8 (by decide), or_keep h.e9 (by decide), or_keep h.e10 (by decide), or_keep h.e11 (by decide), or_keep h.e12 (by decide), or_keep h.e13 (by decide), or_keep h.e14 (by decide), or_keep h.e15 (by decide), or_keep h.e16 (by decide), or_keep h.e17 (by decide), or_keep h.e18 (by decide), or_keep h.e19 (by decide), or_keep h.e20 (by decide), fun _ => rfl, or_keep h.e22 (by decide), or_keep h.e23 (by decide), or_keep h.e24 (by decide)⟩
theorem BaR.s22 {w1 : World} {x1 x2 E : Int} {A V : Array Value} {R : Bool} {D : Nat → Prop} {v49 v50 v51 v52 v53 v54 v55 v56 v57 v58 v59 v60 v61 v62 v63 v64 v65 v66 v67 v68 v69 v70 v71 v72 v73 : Value} {w' w'' : World} (h : BaR w1 x1 x2 E A V R D v49 v50 v51 v52 v53 v54 v55 v56 v57 v58 v59 v60 v61 v62 v63 v64 v65 v66 v67 v68 v69 v70 v71 v72 v73 w') (hb : Below w'.heap.size w' w'') : BaR w1 x1 x2 E A V R (fun j => D j ∨ j = 22) v49 v50 v51 v52 v53 v54 v55 v56 v57 v58 v59 v60 v61 v62 v63 v64 v65 v66 v67 v68 v69 v70 (.bool R) v72 v73 w'' :=
  ⟨bthen h.b hb, or_keep h.e0 (by decide), or_keep h.e1 (by decide), or_keep h.e2 (by decide), or_keep h.e3 (by decide), or_keep h.e4 (by decide), or_keep h.e5 (by decide), or_keep h.e6 (by decide), or_keep h.e7 (by decide), or_keep h.e8 (by decide), or_keep h.e9 (by decide), or_keep h.e10 (by decide), or_keep h.e11 (by decide), or_keep h.e12 (by decide), or_keep h.e13 (by decide), or_keep h.e14 (by decide), or_keep h.e15 (by decide), or_keep h.e16 (by decide), or_keep h.e17 (by decide), or_keep h.e18 (by decide), or_keep h.e19 (by decide), or_keep h.e20 (by decide), or_keep h.e21 (by decide), fun _ => rfl, or_keep h.e23 (by decide), or_keep h.e24 (by decide)⟩
theorem BaR.s23 {w1 : World} {x1 x2 E : Int} {A V : Array Value} {R : Bool} {D : Nat → Prop} {v49 v50 v51 v52 v53 v54 v55 v56 v57 v58 v59 v60 v61 v62 v63 v64 v65 v66 v67 v68 v69 v70 v71 v72 v73 : Value} {w' w'' : World} (h : BaR w1 x1 x2 E A V R D v49 v50 v51 v52 v53 v54 v55 v56 v57 v58 v59 v60 v61 v62 v63 v64 v65 v66 v67 v68 v69 v70 v71 v72 v73 w') (hb : Below w'.heap.size w' w'') : BaR w1 x1 x2 E A V R (fun j => D j ∨ j = 23) v49 v50 v51 v52 v53 v54 v55 v56 v57 v58 v59 v60 v61 v62 v63 v64 v65 v66 v67 v68 v69 v70 v71 (.bool true) v73 w'' :=
  ⟨bthen h.b hb, or_keep h.e0 (by decide), or_keep h.e1 (by decide), or_keep h.e2 (by decide), or_keep h.e3 (by decide), or_keep h.e4 (by decide), or_keep h.e5 (by decide), or_keep h.e6 (by decide), or_keep h.e7 (by decide), or_keep h.e8 (by decide), or_keep h.e9 (by decide), or_keep h.e10 (by decide), or_keep h.e11 (by decide), or_keep h.e12 (by decide), or_keep h.e13 (by decide), or_keep h.e14 (by decide), or_keep h.e15 (by decide), or_keep h.e16 (by decide), or_keep h.e17 (by decide), or_keep h.e18 (by decide), or_keep h.e19 (by decide), or_keep h.e20 (by decide), or_keep h.e21 (by decide), or_keep h.e22 (by decide), fun _ => rfl, or_keep h.e24 (by decide)⟩
theorem BaR.s24 {w1 : World} {x1 x2 E : Int} {A V : Array Value} {R : Bool} {D : Nat → Prop} {v49 v50 v51 v52 v53 v54 v55 v56 v57 v58 v59 v60 v61 v62 v63 v64 v65 v66 v67 v68 v69 v70 v71 v72 v73 : Value} {w' w'' : World} (h : BaR w1 x1 x2 E A V R D v49 v50 v51 v52 v53 v54 v55 v56 v57 v58 v59 v60 v61 v62 v63 v64 v65 v66 v67 v68 v69 v70 v71 v72 v73 w') (hb : Below w'.heap.size w' w'') : BaR w1 x1 x2 E A V R (fun j => D j ∨ j = 24) v49 v50 v51 v52 v53 v54 v55 v56 v57 v58 v59 v60 v61 v62 v63 v64 v65 v66 v67 v68 v69 v70 v71 v72 (.bool true) w'' :=
  ⟨bthen h.b hb, or_keep h.e0 (by decide), or_keep h.e1 (by decide), or_keep h.e2 (by decide), or_keep h.e3 (by decide), or_keep h.e4 (by decide), or_keep h.e5 (by decide), or_keep h.e6 (by decide), or_keep h.e7 (by decide), or_keep h.e8 (by decide), or_keep h.e9 (by decide), or_keep h.e10 (by decide), or_keep h.e11 (by decide), or_keep h.e12 (by decide), or_keep h.e13 (by decide), or_keep h.e14 (by decide), or_keep h.e15 (by decide), or_keep h.e16 (by decide), or_keep h.e17 (by decide), or_keep h.e18 (by decide), or_keep h.e19 (by decide), or_keep h.e20 (by decide), or_keep h.e21 (by decide), or_keep h.e22 (by decide), or_keep h.e23 (by decide), fun _ => rfl⟩
theorem BaR.zero (w1 : World) (x1 x2 E : Int) (A V : Array Value) (R : Bool) (v49 v50 v51 v52 v53 v54 v55 v56 v57 v58 v59 v60 v61 v62 v63 v64 v65 v66 v67 v68 v69 v70 v71 v72 v73 : Value) : BaR w1 x1 x2 E A V R (fun _ => False) v49 v50 v51 v52 v53 v54 v55 v56 v57 v58 v59 v60 v61 v62 v63 v64 v65 v66 v67 v68 v69 v70 v71 v72 v73 w1.drew :=
  ⟨(Below.refl _ _).drew, fun h => h.elim, fun h => h.elim, fun h => h.elim, fun h => h.elim, fun h => h.elim, fun h => h.elim, fun h => h.elim, fun h => h.elim, fun h => h.elim, fun h => h.elim, fun h => h.elim, fun h => h.elim, fun h => h.elim, fun h => h.elim, fun h => h.elim, fun h => h.elim, fun h => h.elim, fun h => h.elim, fun h => h.elim, fun h => h.elim, fun h => h.elim, fun h => h.elim, fun h => h.elim, fun h => h.elim, fun h => h.elim⟩

set_option maxRecDepth 100000 in
set_option maxHeartbeats 4000000 in
theorem bases_core (A V : Array Value) (x1 x2 c s e l E : Int) (R : Bool) (w : World) (hA : Hid (A.size = 9)) (hV : Hid (V.size = 9)) (oV : Hid (V.all (·.oneCell') = true)) (hE : Hid (∀ W, (binOp .eql 42 (.agg V) (.agg V)).run Tryd.prog W = .ok (.bool true) W))
    (H1 : Hid (∀ W, Calls Tryd.prog 25 #[.agg A, .int .u8 c, .agg #[.int .i64 s, .int .i64 e], .int .i64 l] W fun r w' => r = .returned (.tuple #[.int .i64 x1, .int .i64 x2]) ∧ Below W.heap.size W w'))
    (H2 : Hid (∀ W, Calls Tryd.prog 40 #[.agg A, .int .u8 c, .agg #[.int .i64 s, .int .i64 e], .int .i64 l] W fun r w' => r = .returned (.tuple #[.int .i64 x1, .int .i64 x2]) ∧ Below W.heap.size W w'))
    (H3 : Hid (∀ W, Calls Tryd.prog 23 #[.agg A, .agg #[.int .i64 s, .int .i64 e], .int .i64 l] W fun r w' => r = .returned (.tuple #[.agg V, .int .i64 E]) ∧ Below W.heap.size W w'))
    (H4 : Hid (∀ W, Calls Tryd.prog 41 #[.agg A, .agg #[.int .i64 s, .int .i64 e], .int .i64 l] W fun r w' => r = .returned (.tuple #[.agg V, .int .i64 E]) ∧ Below W.heap.size W w'))
    (H5 : Hid (∀ W, Calls Tryd.prog 24 #[.agg A] W fun r w' => r = .returned (.bool R) ∧ Below W.heap.size W w'))
    (H6 : Hid (∀ W, Calls Tryd.prog 42 #[.agg A] W fun r w' => r = .returned (.bool R) ∧ Below W.heap.size W w')) :
    Calls Tryd.prog 22 #[.agg A, .int .u8 c, .agg #[.int .i64 s, .int .i64 e], .int .i64 l] w fun r w' => r = .returned (.bool true) ∧ Below w.heap.size w w' := by
  have IA2 : Hid ((Tryd.prog.info? 42).map (·.size) = some A.toList.length) := by rw [Array.length_toList, hA.out]; exact info42
  have IV2 : Hid ((Tryd.prog.info? 42).map (·.size) = some V.toList.length) := by rw [Array.length_toList, hV.out]; exact info42
  have IV1 : Hid ((Tryd.prog.info? 41).map (·.size) = some V.toList.length) := by rw [Array.length_toList, hV.out]; exact info41
  have JV2 : Hid ((Tryd.prog.info? 42).map (·.size) = some V.size) := by rw [hV.out]; exact info42
  have JV1 : Hid ((Tryd.prog.info? 41).map (·.size) = some V.size) := by rw [hV.out]; exact info41
  go_enter Tryd.func22, Tryd.ntmps22
  go_wp2_with (refine wpList_load_wide 42 (.tmp 4) rfl (by rfl) (w.heap.size) 0 rfl A _ Tryd.underlying42 rfl IA2.out ?_ ?_; · (repeat (first | with_reducible exact hA | exact range_new _ _ _ | refine World.rangeAt_alloc ?_ _)))
  refine (H1.out _).mono ?_
  rintro r w1 ⟨rfl, hb⟩
  have RA1 : w1.rangeAt w.heap.size 0 A.toList := range_below hb (by simp; omega) (World.rangeAt_alloc (World.rangeAt_alloc (range_new w A 42) _) _)
  have c0 : w1.cell? ⟨w.heap.size + 1, 0, none⟩ = some (.int .i64 s) := (hb.cell (p := ⟨w.heap.size + 1, 0, none⟩) (by simp)).trans (by simp [go_sem])
  have c1 : w1.cell? ⟨w.heap.size + 1, 1, none⟩ = some (.int .i64 e) := (hb.cell (p := ⟨w.heap.size + 1, 1, none⟩) (by simp)).trans (by simp [go_sem])
  have d0 : w1.cell? ⟨w.heap.size + 1 + 1, 0, none⟩ = some (.int .i64 s) := (hb.cell (p := ⟨w.heap.size + 1 + 1, 0, none⟩) (by simp)).trans (by simp [go_sem])
  have d1 : w1.cell? ⟨w.heap.size + 1 + 1, 1, none⟩ = some (.int .i64 e) := (hb.cell (p := ⟨w.heap.size + 1 + 1, 1, none⟩) (by simp)).trans (by simp [go_sem])
  have e1 : Below w.heap.size w w1 := bthen (by (repeat' (first | exact Below.refl _ _ | refine Below.setCell ?_ (by first | omega | (simp; done) | (simp; omega)) _ | refine Below.alloc ?_ (by first | omega | (simp; done) | (simp; omega)) _))) hb
  clear hb
  go_wp2_with (refine wpList_load_wide 42 (.tmp 4) rfl (by rfl) (w.heap.size) 0 rfl A _ Tryd.underlying42 rfl IA2.out ?_ ?_; · (repeat (first | with_reducible exact RA1 | exact range_new _ _ _ | refine World.rangeAt_alloc ?_ _)))
  refine (H2.out _).mono ?_
  rintro r w2 ⟨rfl, hb⟩
  have e2 := bthen e1 hb
  have RA2 := range_below hb (Nat.lt_trans (Nat.lt_succ_self _) (cell_lt c0)) RA1
  replace c0 := kc hb c0
  replace c1 := kc hb c1
  replace d0 := kc hb d0
  replace d1 := kc hb d1
  have z1 : w.heap.size + 1 < w2.heap.size := cell_lt c0
  clear hb RA1 e1
  go_wp2_with (refine wpList_load_wide 42 (.tmp 4) rfl (by rfl) (w.heap.size) 0 rfl A _ Tryd.underlying42 rfl IA2.out ?_ ?_; · (repeat (first | with_reducible exact RA2 | exact range_new _ _ _ | refine World.rangeAt_alloc ?_ _)))
  refine (H3.out _).mono ?_
  rintro r w3 ⟨rfl, hb⟩
  have e3 := bthen e2 hb
  have k3 := e3.size
  have RA3 := range_below hb (by omega) RA2
  replace d0 := kc hb d0
  replace d1 := kc hb d1
  have z2 : w.heap.size + 1 + 1 < w3.heap.size := cell_lt d0
  clear hb RA2 e2 c0 c1 z1
  go_wp2_with (first | (refine wpList_load_wide 42 (.tmp 4) rfl (by rfl) (w.heap.size) 0 rfl A _ Tryd.underlying42 rfl IA2.out ?_ ?_; · (repeat (first | with_reducible exact RA4 | exact range_new _ _ _ | refine World.rangeAt_alloc ?_ _))) | (refine wpList_store_wide 42 (.tmp 14) (.tmp 40) rfl rfl w3.heap.size 0 V rfl rfl w.heap.size w JV2.out oV.out (e3.alloc k3 _) k3 (there_new _ _ _ _ _ rfl ?_) ?_; (· (rw [hV.out]; rfl)); intro v1 f1 q1 r1 x1' j1 j2; clear j1 j2; have RA4 := x1' _ _ _ (by omega) (World.rangeAt_alloc RA3 _); have y1 : w3.heap.size < v1.heap.size := (by rw [q1]; simp); have y2 : w.heap.size ≤ v1.heap.size := f1.size; have d0' := x1' (w.heap.size + 1 + 1) 0 [.int .i64 s, .int .i64 e] (by omega) (World.rangeAt_alloc (two_at d0 d1) _); have d0'' := d0' 0 _ rfl; have d1'' := d0' 1 _ rfl; simp only [Nat.zero_add] at d0'' d1''; clear d0 d1 d0' x1' q1))
  refine (H4.out _).mono ?_
  rintro r w4 ⟨rfl, hb⟩
  have e4 := bthen f1 hb
  have k4 := e4.size
  have RA5 := range_below hb (by omega) RA4
  have RV5 := range_below hb y1 r1
  have z4 : w3.heap.size < w4.heap.size := Nat.lt_of_lt_of_le y1 hb.size
  clear hb RA3 RA4 r1 f1 y1 y2 d0'' d1'' z2 e3
  obtain ⟨P, hP⟩ : ∃ P, w3.heap.size = P := ⟨_, rfl⟩
  rw [hP] at RV5 z4 k3 ⊢
  clear hP
  go_wp2_with (refine wpList_store_wide 41 (.tmp 16) (.tmp 47) rfl rfl w4.heap.size 0 V rfl rfl w.heap.size w JV1.out oV.out (e4.alloc k4 _) k4 (there_new _ _ _ _ _ rfl ?_) ?_; (· (rw [hV.out]; rfl)); intro W e5 q1 r2 x1' j1 j2; clear j1 j2; have RA := x1' _ _ _ (by omega) (World.rangeAt_alloc RA5 _); have RV := x1' _ _ _ (by omega) (World.rangeAt_alloc RV5 _); have y1 : w4.heap.size < W.heap.size := (by rw [q1]; simp); clear x1' q1 RA5 RV5)
  obtain ⟨Q, hQ⟩ : ∃ Q, w4.heap.size = Q := ⟨_, rfl⟩
  rw [hQ] at r2 y1 z4 k4 ⊢
  clear hQ e4
  have hz0 : w.heap.size < W.heap.size := by omega
  have hzP : P < W.heap.size := by omega
  refine wp_region_steps 25 [[], [], [0, 1], [2], [3], [3], [4, 5, 3], [3, 6], [7], [8], [8], [9, 10, 8], [8, 11], [12], [13], [13], [14, 15, 13], [13, 16], [17], [18], [19, 18], [18], [21, 18], [20, 22, 18], [18, 23]] (fun D a w' => ∃ v49 v50 v51 v52 v53 v54 v55 v56 v57 v58 v59 v60 v61 v62 v63 v64 v65 v66 v67 v68 v69 v70 v71 v72 v73 : Value, a = ⟨#[.agg A, .int .u8 c, .agg #[.int .i64 s, .int .i64 e], .int .i64 l, .pointer (some ⟨w.heap.size, 0, none⟩), undef, .pointer (some ⟨w.heap.size + 1, 0, none⟩), undef, .bool false, .pointer (some ⟨w.heap.size + 1 + 1, 0, none⟩), .int .i64 x1, .int .i64 x2, .int .i64 x1, .int .i64 x2, .pointer (some ⟨P, 0, none⟩), .int .i64 E, .pointer (some ⟨Q, 0, none⟩), .int .i64 E, .agg #[.int .i64 s, .int .i64 e], .tuple #[.int .i64 x1, .int .i64 x2], .agg A, .int .u8 c, .agg #[.int .i64 s, .int .i64 e], .int .i64 l, .tuple #[.int .i64 x1, .int .i64 x2], .int .i64 x1, .int .i64 x2, .tuple #[.int .i64 x1, .int .i64 x2], .agg A, .int .u8 c, .agg #[.int .i64 s, .int .i64 e], .int .i64 l, .tuple #[.int .i64 x1, .int .i64 x2], .int .i64 x1, .int .i64 x2, .tuple #[.agg V, .int .i64 E], .agg A, .agg #[.int .i64 s, .int .i64 e], .int .i64 l, .tuple #[.agg V, .int .i64 E], .agg V, .int .i64 E, .tuple #[.agg V, .int .i64 E], .agg A, .agg #[.int .i64 s, .int .i64 e], .int .i64 l, .tuple #[.agg V, .int .i64 E], .agg V, .int .i64 E, v49, v50, v51, v52, v53, v54, v55, v56, v57, v58, v59, v60, v61, v62, v63, v64, v65, v66, v67, v68, v69, v70, v71, v72, v73], []⟩ ∧ BaR W x1 x2 E A V R D v49 v50 v51 v52 v53 v54 v55 v56 v57 v58 v59 v60 v61 v62 v63 v64 v65 v66 v67 v68 v69 v70 v71 v72 v73 w') (by kernel_rfl) (by kernel_rfl) ⟨undef, undef, undef, undef, undef, undef, undef, undef, undef, undef, undef, undef, undef, undef, undef, undef, undef, undef, undef, undef, undef, undef, undef, undef, undef, rfl, BaR.zero W x1 x2 E A V R (undef) (undef) (undef) (undef) (undef) (undef) (undef) (undef) (undef) (undef) (undef) (undef) (undef) (undef) (undef) (undef) (undef) (undef) (undef) (undef) (undef) (undef) (undef) (undef) (undef)⟩ ?_ ?_
  · simp only [List.take_succ_cons, List.take_zero]
    refine ⟨?_, ?_, ?_, ?_, ?_, ?_, ?_, ?_, ?_, ?_, ?_, ?_, ?_, ?_, ?_, ?_, ?_, ?_, ?_, ?_, ?_, ?_, ?_, ?_, ?_, trivial⟩
    · intro D a w' hn hp hI
      obtain ⟨v49, v50, v51, v52, v53, v54, v55, v56, v57, v58, v59, v60, v61, v62, v63, v64, v65, v66, v67, v68, v69, v70, v71, v72, v73, rfl, hR⟩ := hI
      clear hn hp
      go_wp2_with fail
      exact ⟨_, _, _, _, _, _, _, _, _, _, _, _, _, _, _, _, _, _, _, _, _, _, _, _, _, rfl, hR.s0 (Below.refl _ _)⟩
    · intro D a w' hn hp hI
      obtain ⟨v49, v50, v51, v52, v53, v54, v55, v56, v57, v58, v59, v60, v61, v62, v63, v64, v65, v66, v67, v68, v69, v70, v71, v72, v73, rfl, hR⟩ := hI
      clear hn hp
      go_wp2_with fail
      exact ⟨_, _, _, _, _, _, _, _, _, _, _, _, _, _, _, _, _, _, _, _, _, _, _, _, _, rfl, hR.s1 (Below.refl _ _)⟩
    · intro D a w' hn hp hI
      obtain ⟨v49, v50, v51, v52, v53, v54, v55, v56, v57, v58, v59, v60, v61, v62, v63, v64, v65, v66, v67, v68, v69, v70, v71, v72, v73, rfl, hR⟩ := hI
      obtain rfl := hR.e0 hp.1
      obtain rfl := hR.e1 hp.2.1
      clear hn hp
      go_wp2_with fail
      exact ⟨_, _, _, _, _, _, _, _, _, _, _, _, _, _, _, _, _, _, _, _, _, _, _, _, _, rfl, hR.s2 (Below.refl _ _)⟩
    · intro D a w' hn hp hI
      obtain ⟨v49, v50, v51, v52, v53, v54, v55, v56, v57, v58, v59, v60, v61, v62, v63, v64, v65, v66, v67, v68, v69, v70, v71, v72, v73, rfl, hR⟩ := hI
      obtain rfl := hR.e2 hp.1
      clear hn hp
      go_wp2_with fail
      exact ⟨_, _, _, _, _, _, _, _, _, _, _, _, _, _, _, _, _, _, _, _, _, _, _, _, _, rfl, hR.s3 (Below.refl _ _)⟩
    · intro D a w' hn hp hI
      obtain ⟨v49, v50, v51, v52, v53, v54, v55, v56, v57, v58, v59, v60, v61, v62, v63, v64, v65, v66, v67, v68, v69, v70, v71, v72, v73, rfl, hR⟩ := hI
      obtain rfl := hR.e3 hp.1
      have RR := range_below hR.b hzP RV
      clear hn hp
      go_wp2_with (refine wpList_load_wide 42 (.tmp 14) rfl (by rfl) P 0 rfl V _ Tryd.underlying42 rfl IV2.out RR ?_)
      exact ⟨_, _, _, _, _, _, _, _, _, _, _, _, _, _, _, _, _, _, _, _, _, _, _, _, _, rfl, hR.s4 (Below.refl _ _)⟩
    · intro D a w' hn hp hI
      obtain ⟨v49, v50, v51, v52, v53, v54, v55, v56, v57, v58, v59, v60, v61, v62, v63, v64, v65, v66, v67, v68, v69, v70, v71, v72, v73, rfl, hR⟩ := hI
      obtain rfl := hR.e3 hp.1
      have RR := range_below hR.b y1 r2
      clear hn hp
      go_wp2_with (refine wpList_load_wide 41 (.tmp 16) rfl (by rfl) Q 0 rfl V _ Tryd.underlying41 rfl IV1.out RR ?_)
      exact ⟨_, _, _, _, _, _, _, _, _, _, _, _, _, _, _, _, _, _, _, _, _, _, _, _, _, rfl, hR.s5 (Below.refl _ _)⟩
    · intro D a w' hn hp hI
      obtain ⟨v49, v50, v51, v52, v53, v54, v55, v56, v57, v58, v59, v60, v61, v62, v63, v64, v65, v66, v67, v68, v69, v70, v71, v72, v73, rfl, hR⟩ := hI
      obtain rfl := hR.e4 hp.1
      obtain rfl := hR.e5 hp.2.1
      obtain rfl := hR.e3 hp.2.2.1
      have he := hE.out
      clear hn hp
      go_wp2_with fail
      exact ⟨_, _, _, _, _, _, _, _, _, _, _, _, _, _, _, _, _, _, _, _, _, _, _, _, _, rfl, hR.s6 (Below.refl _ _)⟩
    · intro D a w' hn hp hI
      obtain ⟨v49, v50, v51, v52, v53, v54, v55, v56, v57, v58, v59, v60, v61, v62, v63, v64, v65, v66, v67, v68, v69, v70, v71, v72, v73, rfl, hR⟩ := hI
      obtain rfl := hR.e3 hp.1
      obtain rfl := hR.e6 hp.2.1
      clear hn hp
      go_wp2_with fail
      exact ⟨_, _, _, _, _, _, _, _, _, _, _, _, _, _, _, _, _, _, _, _, _, _, _, _, _, rfl, hR.s7 (Below.refl _ _)⟩
    · intro D a w' hn hp hI
      obtain ⟨v49, v50, v51, v52, v53, v54, v55, v56, v57, v58, v59, v60, v61, v62, v63, v64, v65, v66, v67, v68, v69, v70, v71, v72, v73, rfl, hR⟩ := hI
      obtain rfl := hR.e7 hp.1
      clear hn hp
      go_wp2_with fail
      exact ⟨_, _, _, _, _, _, _, _, _, _, _, _, _, _, _, _, _, _, _, _, _, _, _, _, _, rfl, hR.s8 (Below.refl _ _)⟩
    · intro D a w' hn hp hI
      obtain ⟨v49, v50, v51, v52, v53, v54, v55, v56, v57, v58, v59, v60, v61, v62, v63, v64, v65, v66, v67, v68, v69, v70, v71, v72, v73, rfl, hR⟩ := hI
      obtain rfl := hR.e8 hp.1
      clear hn hp
      go_wp2_with fail
      exact ⟨_, _, _, _, _, _, _, _, _, _, _, _, _, _, _, _, _, _, _, _, _, _, _, _, _, rfl, hR.s9 (Below.refl _ _)⟩
    · intro D a w' hn hp hI
      obtain ⟨v49, v50, v51, v52, v53, v54, v55, v56, v57, v58, v59, v60, v61, v62, v63, v64, v65, v66, v67, v68, v69, v70, v71, v72, v73, rfl, hR⟩ := hI
      obtain rfl := hR.e8 hp.1
      clear hn hp
      go_wp2_with fail
      exact ⟨_, _, _, _, _, _, _, _, _, _, _, _, _, _, _, _, _, _, _, _, _, _, _, _, _, rfl, hR.s10 (Below.refl _ _)⟩
    · intro D a w' hn hp hI
      obtain ⟨v49, v50, v51, v52, v53, v54, v55, v56, v57, v58, v59, v60, v61, v62, v63, v64, v65, v66, v67, v68, v69, v70, v71, v72, v73, rfl, hR⟩ := hI
      obtain rfl := hR.e9 hp.1
      obtain rfl := hR.e10 hp.2.1
      obtain rfl := hR.e8 hp.2.2.1
      clear hn hp
      go_wp2_with fail
      exact ⟨_, _, _, _, _, _, _, _, _, _, _, _, _, _, _, _, _, _, _, _, _, _, _, _, _, rfl, hR.s11 (Below.refl _ _)⟩
    · intro D a w' hn hp hI
      obtain ⟨v49, v50, v51, v52, v53, v54, v55, v56, v57, v58, v59, v60, v61, v62, v63, v64, v65, v66, v67, v68, v69, v70, v71, v72, v73, rfl, hR⟩ := hI
      obtain rfl := hR.e8 hp.1
      obtain rfl := hR.e11 hp.2.1
      clear hn hp
      go_wp2_with fail
      exact ⟨_, _, _, _, _, _, _, _, _, _, _, _, _, _, _, _, _, _, _, _, _, _, _, _, _, rfl, hR.s12 (Below.refl _ _)⟩
    · intro D a w' hn hp hI
      obtain ⟨v49, v50, v51, v52, v53, v54, v55, v56, v57, v58, v59, v60, v61, v62, v63, v64, v65, v66, v67, v68, v69, v70, v71, v72, v73, rfl, hR⟩ := hI
      obtain rfl := hR.e12 hp.1
      clear hn hp
      go_wp2_with fail
      exact ⟨_, _, _, _, _, _, _, _, _, _, _, _, _, _, _, _, _, _, _, _, _, _, _, _, _, rfl, hR.s13 (Below.refl _ _)⟩
    · intro D a w' hn hp hI
      obtain ⟨v49, v50, v51, v52, v53, v54, v55, v56, v57, v58, v59, v60, v61, v62, v63, v64, v65, v66, v67, v68, v69, v70, v71, v72, v73, rfl, hR⟩ := hI
      obtain rfl := hR.e13 hp.1
      clear hn hp
      go_wp2_with fail
      exact ⟨_, _, _, _, _, _, _, _, _, _, _, _, _, _, _, _, _, _, _, _, _, _, _, _, _, rfl, hR.s14 (Below.refl _ _)⟩
    · intro D a w' hn hp hI
      obtain ⟨v49, v50, v51, v52, v53, v54, v55, v56, v57, v58, v59, v60, v61, v62, v63, v64, v65, v66, v67, v68, v69, v70, v71, v72, v73, rfl, hR⟩ := hI
      obtain rfl := hR.e13 hp.1
      clear hn hp
      go_wp2_with fail
      exact ⟨_, _, _, _, _, _, _, _, _, _, _, _, _, _, _, _, _, _, _, _, _, _, _, _, _, rfl, hR.s15 (Below.refl _ _)⟩
    · intro D a w' hn hp hI
      obtain ⟨v49, v50, v51, v52, v53, v54, v55, v56, v57, v58, v59, v60, v61, v62, v63, v64, v65, v66, v67, v68, v69, v70, v71, v72, v73, rfl, hR⟩ := hI
      obtain rfl := hR.e14 hp.1
      obtain rfl := hR.e15 hp.2.1
      obtain rfl := hR.e13 hp.2.2.1
      clear hn hp
      go_wp2_with fail
      exact ⟨_, _, _, _, _, _, _, _, _, _, _, _, _, _, _, _, _, _, _, _, _, _, _, _, _, rfl, hR.s16 (Below.refl _ _)⟩
    · intro D a w' hn hp hI
      obtain ⟨v49, v50, v51, v52, v53, v54, v55, v56, v57, v58, v59, v60, v61, v62, v63, v64, v65, v66, v67, v68, v69, v70, v71, v72, v73, rfl, hR⟩ := hI
      obtain rfl := hR.e13 hp.1
      obtain rfl := hR.e16 hp.2.1
      clear hn hp
      go_wp2_with fail
      exact ⟨_, _, _, _, _, _, _, _, _, _, _, _, _, _, _, _, _, _, _, _, _, _, _, _, _, rfl, hR.s17 (Below.refl _ _)⟩
    · intro D a w' hn hp hI
      obtain ⟨v49, v50, v51, v52, v53, v54, v55, v56, v57, v58, v59, v60, v61, v62, v63, v64, v65, v66, v67, v68, v69, v70, v71, v72, v73, rfl, hR⟩ := hI
      obtain rfl := hR.e17 hp.1
      clear hn hp
      go_wp2_with fail
      exact ⟨_, _, _, _, _, _, _, _, _, _, _, _, _, _, _, _, _, _, _, _, _, _, _, _, _, rfl, hR.s18 (Below.refl _ _)⟩
    · intro D a w' hn hp hI
      obtain ⟨v49, v50, v51, v52, v53, v54, v55, v56, v57, v58, v59, v60, v61, v62, v63, v64, v65, v66, v67, v68, v69, v70, v71, v72, v73, rfl, hR⟩ := hI
      obtain rfl := hR.e18 hp.1
      have RR := range_below hR.b hz0 RA
      clear hn hp
      go_wp2_with (refine wpList_load_wide 42 (.tmp 4) rfl (by rfl) w.heap.size 0 rfl A _ Tryd.underlying42 rfl IA2.out RR ?_)
      exact ⟨_, _, _, _, _, _, _, _, _, _, _, _, _, _, _, _, _, _, _, _, _, _, _, _, _, rfl, hR.s19 (Below.refl _ _)⟩
    · intro D a w' hn hp hI
      obtain ⟨v49, v50, v51, v52, v53, v54, v55, v56, v57, v58, v59, v60, v61, v62, v63, v64, v65, v66, v67, v68, v69, v70, v71, v72, v73, rfl, hR⟩ := hI
      obtain rfl := hR.e19 hp.1
      obtain rfl := hR.e18 hp.2.1
      clear hn hp
      go_wp2_with fail
      refine (H5.out _).mono ?_
      rintro e w'' ⟨rfl, hb⟩
      go_wp2_with fail
      exact ⟨_, _, _, _, _, _, _, _, _, _, _, _, _, _, _, _, _, _, _, _, _, _, _, _, _, rfl, hR.s20 hb⟩
    · intro D a w' hn hp hI
      obtain ⟨v49, v50, v51, v52, v53, v54, v55, v56, v57, v58, v59, v60, v61, v62, v63, v64, v65, v66, v67, v68, v69, v70, v71, v72, v73, rfl, hR⟩ := hI
      obtain rfl := hR.e18 hp.1
      have RR := range_below hR.b hz0 RA
      clear hn hp
      go_wp2_with (refine wpList_load_wide 42 (.tmp 4) rfl (by rfl) w.heap.size 0 rfl A _ Tryd.underlying42 rfl IA2.out RR ?_)
      exact ⟨_, _, _, _, _, _, _, _, _, _, _, _, _, _, _, _, _, _, _, _, _, _, _, _, _, rfl, hR.s21 (Below.refl _ _)⟩
    · intro D a w' hn hp hI
      obtain ⟨v49, v50, v51, v52, v53, v54, v55, v56, v57, v58, v59, v60, v61, v62, v63, v64, v65, v66, v67, v68, v69, v70, v71, v72, v73, rfl, hR⟩ := hI
      obtain rfl := hR.e21 hp.1
      obtain rfl := hR.e18 hp.2.1
      clear hn hp
      go_wp2_with fail
      refine (H6.out _).mono ?_
      rintro e w'' ⟨rfl, hb⟩
      go_wp2_with fail
      exact ⟨_, _, _, _, _, _, _, _, _, _, _, _, _, _, _, _, _, _, _, _, _, _, _, _, _, rfl, hR.s22 hb⟩
    · intro D a w' hn hp hI
      obtain ⟨v49, v50, v51, v52, v53, v54, v55, v56, v57, v58, v59, v60, v61, v62, v63, v64, v65, v66, v67, v68, v69, v70, v71, v72, v73, rfl, hR⟩ := hI
      obtain rfl := hR.e20 hp.1
      obtain rfl := hR.e22 hp.2.1
      obtain rfl := hR.e18 hp.2.2.1
      clear hn hp
      go_wp2_with fail
      exact ⟨_, _, _, _, _, _, _, _, _, _, _, _, _, _, _, _, _, _, _, _, _, _, _, _, _, rfl, hR.s23 (Below.refl _ _)⟩
    · intro D a w' hn hp hI
      obtain ⟨v49, v50, v51, v52, v53, v54, v55, v56, v57, v58, v59, v60, v61, v62, v63, v64, v65, v66, v67, v68, v69, v70, v71, v72, v73, rfl, hR⟩ := hI
      obtain rfl := hR.e18 hp.1
      obtain rfl := hR.e23 hp.2.1
      clear hn hp
      go_wp2_with fail
      exact ⟨_, _, _, _, _, _, _, _, _, _, _, _, _, _, _, _, _, _, _, _, _, _, _, _, _, rfl, hR.s24 (Below.refl _ _)⟩
  intro D a w' hD hI
  obtain ⟨v49, v50, v51, v52, v53, v54, v55, v56, v57, v58, v59, v60, v61, v62, v63, v64, v65, v66, v67, v68, v69, v70, v71, v72, v73, rfl, hR⟩ := hI
  obtain rfl := hR.e24 (hD 24 (by decide))
  have hb := bthen e5 hR.b
  clear hR
  simp only [List.drop_succ_cons, List.drop_zero]
  go_wp2_with fail
  go_ret
  exact ⟨rfl, hb⟩

theorem bases_any (b : Nat → Int) (c s e l : Int) (w : World) (hc0 : 0 ≤ c) : Calls Tryd.prog 22 #[.agg #[.int .i64 (b 0), .int .i64 (b 1), .int .i64 (b 2), .int .i64 (b 3), .int .i64 (b 4), .int .i64 (b 5), .int .i64 (b 6), .int .i64 (b 7), .int .i64 (b 8)], .int .u8 c, .agg #[.int .i64 s, .int .i64 e], .int .i64 l] w fun r w' => r = .returned (.bool true) ∧ Below w.heap.size w w' := by
  obtain ⟨v, E, H3, H4⟩ := all_both b s e l
  exact bases_core #[.int .i64 (b 0), .int .i64 (b 1), .int .i64 (b 2), .int .i64 (b 3), .int .i64 (b 4), .int .i64 (b 5), .int .i64 (b 6), .int .i64 (b 7), .int .i64 (b 8)] #[.int .i64 (v 0), .int .i64 (v 1), .int .i64 (v 2), .int .i64 (v 3), .int .i64 (v 4), .int .i64 (v 5), .int .i64 (v 6), .int .i64 (v 7), .int .i64 (v 8)] _ _ c s e l E _ w (show _ = _ from rfl) (show _ = _ from rfl) (show _ = _ by simp [Value.oneCell']) (nine_eql v) (fun W => of_any b c s e l W hc0) (fun W => rof_any b c s e l W hc0) H3.out H4.out
    (fun W => (right_any b W).mono fun _ _ ⟨h1, h2⟩ => ⟨h1, h2 ▸ (Below.refl _ _).alloc (Nat.le_refl _) _⟩) (fun W => (rright_any b W).mono fun _ _ ⟨h1, h2⟩ => ⟨h1, h2 ▸ (Below.refl _ _).alloc (Nat.le_refl _) _⟩)

end Go.Proofs.YtkcgijkccpiljaaDoor
