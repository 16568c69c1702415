/-
  The walk of the law TimeoutLonger: it returns true at every input and writes nothing that was there.
-/
import Derived.Test.YtkcgijkccpiljaaDoorScales
namespace Go.Proofs.YtkcgijkccpiljaaDoor
open Go.ChangeShapes Go.WideShapes Go.ChangeAt Go.RowKit
set_option linter.unusedVariables false

set_option maxRecDepth 100000 in
set_option maxHeartbeats 1000000 in
theorem timeoutLonger_walk (x : Nb) (other live : Int) (w : World) (hT : Tab w) (hx : B64 x.1 ∧ B64 x.2.1 ∧ B64 x.2.2) (ho : B64 other) (hl : B64 live) :
    Calls Tryd.prog 5 #[.agg #[.int .i64 x.1, .int .i64 x.2.1, .int .i64 x.2.2], .int .i64 other, .int .i64 live] w fun e w' => e = .returned (.bool true) ∧ Below w.heap.size w w' := by
  obtain ⟨t, s, e, ⟨h1, h2, h3, h4, h5, h6⟩, HM⟩ := made_any' x w hx
  have HT := Lib.hid hT
  clear hT hx
  have HL1 : Hid (∀ W, Calls Tryd.prog 16 #[.int .i64 live, .int .i64 e] W fun r w' => r = .returned (.int .i64 (live % e)) ∧ W = w') := fun W => modulo_any live e W hl.1 hl.2 (by omega) (by omega)
  have hl1 := Int.emod_nonneg live (show e ≠ 0 by omega)
  have hl2 := Int.emod_lt_of_pos live (show 0 < e by omega)
  clear hl
  generalize live % e = l at *
  have HL2 : Hid (∀ W, Calls Tryd.prog 16 #[.int .i64 other, .int .i64 16777215] W fun r w' => r = .returned (.int .i64 (other % 16777215)) ∧ W = w') := fun W => modulo_any other 16777215 W ho.1 ho.2 (by omega) (by omega)
  have hm1 := Int.emod_nonneg other (show (16777215 : Int) ≠ 0 by omega)
  have hm2 := Int.emod_lt_of_pos other (show (0 : Int) < 16777215 by omega)
  clear ho
  generalize other % 16777215 = m at *
  obtain ⟨u, hu⟩ : ∃ u, 1 + m = u := ⟨_, rfl⟩
  have HA1 := Lib.hid (fun W => Scaled_ok (t := t) (s := s) (e := e) (l := l) W h1 h2 h3 h5 (by omega) hl1 hl2)
  have HA2 := Lib.hid (fun W => Scaled_ok (t := 1 + m) (s := s) (e := e) (l := l) W (by omega) (by omega) h3 h5 (by omega) hl1 hl2)
  have r1 : t ≤ 1 + m → scl t s e l ≤ scl (1 + m) s e l := fun h => scl_longer t (1 + m) s e l h h5 hl2
  have r2 : 1 + m ≤ t → scl (1 + m) s e l ≤ scl t s e l := fun h => scl_longer (1 + m) t s e l h h5 hl2
  have r3 : t = 1 + m → scl t s e l = scl (1 + m) s e l := fun h => by rw [h]
  generalize scl t s e l = A at *
  generalize scl (1 + m) s e l = B at *
  rcases Int.lt_trichotomy t (1 + m) with hc | hc | hc
  · have k1 : A ≤ B := r1 (by omega)
    have k2 : (t != 1 + m) = true := by simp; omega
    clear r1 r2 r3 hu
    go_enter Tryd.func5, Tryd.ntmps5
    go_wp2_with fail
    refine (awake_any _ (HT.out.alloc _)).mono ?_
    rintro r w1 ⟨rfl, hb1⟩
    obtain ⟨hc1, hf1⟩ := bcell hb1
    have hb01 := bthen ((Below.refl _ w).alloc (Nat.le_refl _) _) hb1
    go_wp2_with fail
    refine (HM.out _).mono ?_
    rintro r w2 ⟨rfl, hb2⟩
    have hb02 := bthen hb01 hb2
    clear hc1 hf1 hb1 hb2 hb01
    go_wp2_with (first | (go_at_call 16; ((with_reducible refine (HL1.out _).mono ?_); rintro e w' ⟨rfl, rfl⟩)) | (go_at_call 16; ((with_reducible refine (HL2.out _).mono ?_); rintro e w' ⟨rfl, rfl⟩)))
    refine (HA1.out _).mono ?_
    rintro r w3 ⟨rfl, hb3⟩
    have c0 := kc hb3 (new2 w2 _ _ _).1
    have c1 := kc hb3 (new2 w2 _ _ _).2
    have hb03 := bthen (hb02.alloc hb02.size _) hb3
    clear hb3
    go_wp2_with fail
    refine (HA2.out _).mono ?_
    rintro r w4 ⟨rfl, hb4⟩
    have hb04 := bthen hb03 hb4
    clear hb4 c0 c1
    go_wp2_with fail
    go_ret
    exact ⟨rfl, hb04⟩
  · have k1 := r3 hc
    subst hc k1
    clear r1 r2 r3 hu
    go_enter Tryd.func5, Tryd.ntmps5
    go_wp2_with fail
    refine (awake_any _ (HT.out.alloc _)).mono ?_
    rintro r w1 ⟨rfl, hb1⟩
    obtain ⟨hc1, hf1⟩ := bcell hb1
    have hb01 := bthen ((Below.refl _ w).alloc (Nat.le_refl _) _) hb1
    go_wp2_with fail
    refine (HM.out _).mono ?_
    rintro r w2 ⟨rfl, hb2⟩
    have hb02 := bthen hb01 hb2
    clear hc1 hf1 hb1 hb2 hb01
    go_wp2_with (first | (go_at_call 16; ((with_reducible refine (HL1.out _).mono ?_); rintro e w' ⟨rfl, rfl⟩)) | (go_at_call 16; ((with_reducible refine (HL2.out _).mono ?_); rintro e w' ⟨rfl, rfl⟩)))
    refine (HA1.out _).mono ?_
    rintro r w3 ⟨rfl, hb3⟩
    have c0 := kc hb3 (new2 w2 _ _ _).1
    have c1 := kc hb3 (new2 w2 _ _ _).2
    have hb03 := bthen (hb02.alloc hb02.size _) hb3
    clear hb3
    go_wp2_with fail
    refine (HA2.out _).mono ?_
    rintro r w4 ⟨rfl, hb4⟩
    have hb04 := bthen hb03 hb4
    clear hb4 c0 c1
    go_wp2_with fail
    go_ret
    exact ⟨by simp, hb04⟩
  · have k1 : B ≤ A := r2 (by omega)
    have k2 : (t != 1 + m) = true := by simp; omega
    clear r1 r2 r3 hu
    go_enter Tryd.func5, Tryd.ntmps5
    go_wp2_with fail
    refine (awake_any _ (HT.out.alloc _)).mono ?_
    rintro r w1 ⟨rfl, hb1⟩
    obtain ⟨hc1, hf1⟩ := bcell hb1
    have hb01 := bthen ((Below.refl _ w).alloc (Nat.le_refl _) _) hb1
    go_wp2_with fail
    refine (HM.out _).mono ?_
    rintro r w2 ⟨rfl, hb2⟩
    have hb02 := bthen hb01 hb2
    clear hc1 hf1 hb1 hb2 hb01
    go_wp2_with (first | (go_at_call 16; ((with_reducible refine (HL1.out _).mono ?_); rintro e w' ⟨rfl, rfl⟩)) | (go_at_call 16; ((with_reducible refine (HL2.out _).mono ?_); rintro e w' ⟨rfl, rfl⟩)))
    refine (HA2.out _).mono ?_
    rintro r w3 ⟨rfl, hb3⟩
    have c0 := kc hb3 (new2 w2 _ _ _).1
    have c1 := kc hb3 (new2 w2 _ _ _).2
    have hb03 := bthen (hb02.alloc hb02.size _) hb3
    clear hb3
    go_wp2_with fail
    refine (HA1.out _).mono ?_
    rintro r w4 ⟨rfl, hb4⟩
    have hb04 := bthen hb03 hb4
    clear hb4 c0 c1
    go_wp2_with fail
    go_ret
    exact ⟨rfl, hb04⟩

end Go.Proofs.YtkcgijkccpiljaaDoor
