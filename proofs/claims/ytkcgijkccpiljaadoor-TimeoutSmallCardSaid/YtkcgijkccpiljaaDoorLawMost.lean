/-
  The walk of the law TimeoutMost: it returns true at every input and writes nothing that was there.
-/
import Derived.Test.YtkcgijkccpiljaaDoorScales
namespace Go.Proofs.YtkcgijkccpiljaaDoor
open Go.ChangeShapes Go.WideShapes Go.ChangeAt Go.RowKit
set_option linter.unusedVariables false

theorem Scaled_no {t s e l : Int} (w : World) (h : e ≤ l) :
    Calls Tryd.prog 17 #[.int .i64 t, .agg #[.int .i64 s, .int .i64 e], .int .i64 l] w fun r w' => r = .returned (.tuple #[.int .i64 0, .int .i64 2]) ∧ Below w.heap.size w w' := by
  have := Scaled_any t s e l w
  have k : sclE t s e l = (0, 2) := by simp [sclE, lvs]; omega
  rw [k] at this
  exact this

set_option maxRecDepth 100000 in
set_option maxHeartbeats 1000000 in
theorem timeoutMost_walk (x : Nb) (lst : Int) (w : World) (hT : Tab w) (hx : B64 x.1 ∧ B64 x.2.1 ∧ B64 x.2.2) (hl : B64 lst) :
    Calls Tryd.prog 6 #[.agg #[.int .i64 x.1, .int .i64 x.2.1, .int .i64 x.2.2], .int .i64 lst] w fun e w' => e = .returned (.bool true) ∧ Below w.heap.size w w' := by
  obtain ⟨t, s, e, ⟨h1, h2, h3, h4, h5, h6⟩, HM⟩ := made_any' x w hx
  have HT := Lib.hid hT
  clear hT hx
  have HL1 : Hid (∀ W, Calls Tryd.prog 16 #[.int .i64 lst, .int .i64 t] W fun r w' => r = .returned (.int .i64 (lst % t)) ∧ W = w') := fun W => modulo_any lst t W hl.1 hl.2 (by omega) (by omega)
  have hl1 := Int.emod_nonneg lst (show t ≠ 0 by omega)
  have hl2 := Int.emod_lt_of_pos lst (show 0 < t by omega)
  clear hl
  generalize lst % t = l at *
  have hmok : mok t s e (1 + l) = true := by
    simp [mok, tmd, rsc]
    omega
  obtain ⟨hf, hm1, hm2⟩ := mst_found t s e (1 + l) h1 h3 h5 (by omega) (by omega)
  have HMo : Hid (∀ W, Calls Tryd.prog 18 #[.int .i64 t, .agg #[.int .i64 s, .int .i64 e], .int .i64 (1 + l)] W fun r w' => r = .returned (.tuple #[.int .i64 (mst t s e (1 + l)), .int .i64 0]) ∧ Below W.heap.size W w') := fun W => by
    have := most_any t s e (1 + l) W
    rw [show mstE t s e (1 + l) = (mst t s e (1 + l), 0) by simp [mstE, hmok]] at this
    exact this
  generalize mst t s e (1 + l) = M at *
  have f1 : 1 + l ≤ scl t s e M := by
    have := hf.pre (by omega)
    rw [show M + 1 - 1 = M by omega] at this
    simp at this
    exact this
  have f2 : M + 1 < e → scl t s e (M + 1) < 1 + l := fun h => by simpa using hf.post h
  clear hf hmok
  have HS1 := Lib.hid (fun W => Scaled_ok (t := t) (s := s) (e := e) (l := M) W h1 h2 h3 h5 (by omega) (by omega) (by omega))
  generalize scl t s e M = A at *
  by_cases hc : M + 1 < e
  · have HS2 := Lib.hid (fun W => Scaled_ok (t := t) (s := s) (e := e) (l := M + 1) W h1 h2 h3 h5 (by omega) (by omega) (by omega))
    have f3 := f2 hc
    clear f2
    generalize scl t s e (M + 1) = B at *
    have k1 : (M == e - 1) = false := by simp; omega
    have k2 : M < e - 1 := by omega
    have k3 : ¬ M < s := by omega
    have k4 : ¬ e ≤ M := by omega
    go_enter Tryd.func6, Tryd.ntmps6
    go_wp2_with fail
    refine (awake_any _ (HT.out.alloc _)).mono ?_
    rintro r w1 ⟨rfl, hb1⟩
    obtain ⟨hc1, hf1⟩ := bcell hb1
    have hb01 := bthen ((Below.refl _ w).alloc (Nat.le_refl _) _) hb1
    go_wp2_with fail
    refine (HM.out _).mono ?_
    rintro r w2 ⟨rfl, hb2⟩
    have hb02 := bthen hb01 hb2
    clear hc1 hf1 hb1 hb2 hb01
    go_wp2_with (go_at_call 16; ((with_reducible refine (HL1.out _).mono ?_); rintro e w' ⟨rfl, rfl⟩))
    refine (HMo.out _).mono ?_
    rintro r w3 ⟨rfl, hb3⟩
    have c0 := kc hb3 (new2 w2 _ _ _).1
    have c1 := kc hb3 (new2 w2 _ _ _).2
    have hb03 := bthen (hb02.alloc hb02.size _) hb3
    clear hb3
    go_wp2_with fail
    refine (HS1.out _).mono ?_
    rintro r w4 ⟨rfl, hb4⟩
    have d0 := kc hb4 c0
    have d1 := kc hb4 c1
    have hb04 := bthen hb03 hb4
    clear hb4 c0 c1
    go_wp2_with fail
    refine (HS2.out _).mono ?_
    rintro r w5 ⟨rfl, hb5⟩
    have c0 := kc hb5 d0
    have c1 := kc hb5 d1
    have hb05 := bthen hb04 hb5
    clear hb5 d0 d1
    go_wp2_with fail
    go_ret
    exact ⟨rfl, hb05⟩
  · obtain rfl : M = e - 1 := by omega
    have HS2 := Lib.hid (fun W => Scaled_no (t := t) (s := s) (e := e) (l := e) W (Int.le_refl _))
    have k3 : ¬ e - 1 < s := by omega
    have k4 : ¬ e ≤ e - 1 := by omega
    clear f2
    go_enter Tryd.func6, Tryd.ntmps6
    go_wp2_with fail
    refine (awake_any _ (HT.out.alloc _)).mono ?_
    rintro r w1 ⟨rfl, hb1⟩
    obtain ⟨hc1, hf1⟩ := bcell hb1
    have hb01 := bthen ((Below.refl _ w).alloc (Nat.le_refl _) _) hb1
    go_wp2_with fail
    refine (HM.out _).mono ?_
    rintro r w2 ⟨rfl, hb2⟩
    have hb02 := bthen hb01 hb2
    clear hc1 hf1 hb1 hb2 hb01
    go_wp2_with (go_at_call 16; ((with_reducible refine (HL1.out _).mono ?_); rintro e w' ⟨rfl, rfl⟩))
    refine (HMo.out _).mono ?_
    rintro r w3 ⟨rfl, hb3⟩
    have c0 := kc hb3 (new2 w2 _ _ _).1
    have c1 := kc hb3 (new2 w2 _ _ _).2
    have hb03 := bthen (hb02.alloc hb02.size _) hb3
    clear hb3
    go_wp2_with fail
    refine (HS1.out _).mono ?_
    rintro r w4 ⟨rfl, hb4⟩
    have d0 := kc hb4 c0
    have d1 := kc hb4 c1
    have hb04 := bthen hb03 hb4
    clear hb4 c0 c1
    go_wp2_with fail
    refine (HS2.out _).mono ?_
    rintro r w5 ⟨rfl, hb5⟩
    have c0 := kc hb5 d0
    have c1 := kc hb5 d1
    have hb05 := bthen hb04 hb5
    clear hb5 d0 d1
    go_wp2_with fail
    go_ret
    exact ⟨rfl, hb05⟩

end Go.Proofs.YtkcgijkccpiljaaDoor
