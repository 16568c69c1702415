/-
  The walks of the laws TimeoutScales and TimeoutLonger: each returns true at every input and writes nothing that was there.
-/
import Derived.Test.YtkcgijkccpiljaaDoorAwake
namespace Go.Proofs.YtkcgijkccpiljaaDoor
open Go.ChangeShapes Go.WideShapes Go.ChangeAt Go.RowKit
set_option linter.unusedVariables false

theorem kc {W W' : World} {b o : Nat} {v : Value} (hb : Below W.heap.size W W') (h : W.cell? ⟨b, o, none⟩ = some v) : W'.cell? ⟨b, o, none⟩ = some v := (hb.cell (cell_lt h)).trans h
theorem new2 (w : World) (a b : Value) (t : TypeId) : (w.alloc (.cells #[a, b] t)).cell? ⟨w.heap.size, 0, none⟩ = some a ∧ (w.alloc (.cells #[a, b] t)).cell? ⟨w.heap.size, 1, none⟩ = some b := by
  constructor <;> simp
def B64 (x : Int) : Prop := -9223372036854775808 ≤ x ∧ x ≤ 9223372036854775807
abbrev Nb := Int × Int × Int
theorem numbers_of {cs : List Value} (h : All2 [some .i64, some .i64, some .i64] cs) : ∃ x : Nb, cs = [.int .i64 x.1, .int .i64 x.2.1, .int .i64 x.2.2] ∧ B64 x.1 ∧ B64 x.2.1 ∧ B64 x.2.2 := by
  obtain ⟨a, r, rfl, ha, h1⟩ := all2_int h
  obtain ⟨b, r, rfl, hb, h2⟩ := all2_int h1
  obtain ⟨c, r, rfl, hc, h3⟩ := all2_int h2
  obtain rfl := all2_nil h3
  exact ⟨(a, b, c), rfl, bounds_i64 ha, bounds_i64 hb, bounds_i64 hc⟩

theorem made_any' (x : Nb) (w : World) (h : B64 x.1 ∧ B64 x.2.1 ∧ B64 x.2.2) : ∃ t s e : Int, (1 ≤ t ∧ t ≤ 16777215 ∧ 0 ≤ s ∧ s < 5000 ∧ s < e ∧ e ≤ 10000) ∧
    Hid (∀ w : World, Calls Tryd.prog 15 #[.agg #[.int .i64 x.1, .int .i64 x.2.1, .int .i64 x.2.2]] w fun r w' => r = .returned (.tuple #[.int .i64 t, .agg #[.int .i64 s, .int .i64 e]]) ∧ Below w.heap.size w w') :=
  ⟨1 + x.1 % 16777215, x.2.1 % 5000, x.2.1 % 5000 + 1 + x.2.2 % 5000, by omega, fun w => made_any x.1 x.2.1 x.2.2 w h.1.1 h.1.2 h.2.1.1 h.2.1.2 h.2.2.1 h.2.2.2⟩

theorem sclE_ok {t s e l : Int} (h1 : 1 ≤ t) (h2 : t ≤ 16777215) (h3 : 0 ≤ s) (h4 : s < e) (h5 : e ≤ 1048576) (h6 : 0 ≤ l) (h7 : l < e) : sclE t s e l = (scl t s e l, 0) := by
  have a : tmd t = true := by simp [tmd, h1, h2]
  have b : lvs s e l = true := by simp [lvs, rsc, h3, h4, h5, h6, h7]
  simp [sclE, a, b]
theorem Scaled_ok {t s e l : Int} (w : World) (h1 : 1 ≤ t) (h2 : t ≤ 16777215) (h3 : 0 ≤ s) (h4 : s < e) (h5 : e ≤ 1048576) (h6 : 0 ≤ l) (h7 : l < e) :
    Calls Tryd.prog 17 #[.int .i64 t, .agg #[.int .i64 s, .int .i64 e], .int .i64 l] w fun r w' => r = .returned (.tuple #[.int .i64 (scl t s e l), .int .i64 0]) ∧ Below w.heap.size w w' := by
  have := Scaled_any t s e l w
  rw [sclE_ok h1 h2 h3 h4 h5 h6 h7] at this
  exact this

set_option maxRecDepth 100000 in
set_option maxHeartbeats 1000000 in
theorem timeoutScales_walk (x : Nb) (live more : Int) (w : World) (hT : Tab w) (hx : B64 x.1 ∧ B64 x.2.1 ∧ B64 x.2.2) (hl : B64 live) (hm : B64 more) :
    Calls Tryd.prog 4 #[.agg #[.int .i64 x.1, .int .i64 x.2.1, .int .i64 x.2.2], .int .i64 live, .int .i64 more] w fun e w' => e = .returned (.bool true) ∧ Below w.heap.size w w' := by
  obtain ⟨t, s, e, ⟨h1, h2, h3, h4, h5, h6⟩, HM⟩ := made_any' x w hx
  have HT := Lib.hid hT
  clear hT hx
  have HL1 : Hid (∀ W, Calls Tryd.prog 16 #[.int .i64 live, .int .i64 e] W fun r w' => r = .returned (.int .i64 (live % e)) ∧ W = w') := fun W => modulo_any live e W hl.1 hl.2 (by omega) (by omega)
  have hl1 := Int.emod_nonneg live (show e ≠ 0 by omega)
  have hl2 := Int.emod_lt_of_pos live (show 0 < e by omega)
  clear hl
  generalize live % e = l at *
  have HL2 : Hid (∀ W, Calls Tryd.prog 16 #[.int .i64 more, .int .i64 (e - l)] W fun r w' => r = .returned (.int .i64 (more % (e - l))) ∧ W = w') := fun W => modulo_any more (e - l) W hm.1 hm.2 (by omega) (by omega)
  have hm1 := Int.emod_nonneg more (show e - l ≠ 0 by omega)
  have hm2 := Int.emod_lt_of_pos more (show 0 < e - l by omega)
  clear hm
  generalize more % (e - l) = m at *
  have HS1 := Lib.hid (fun W => Scaled_ok (t := t) (s := s) (e := e) (l := l) W h1 h2 h3 h5 (by omega) hl1 hl2)
  have HS2 := Lib.hid (fun W => Scaled_ok (t := t) (s := s) (e := e) (l := l + m) W h1 h2 h3 h5 (by omega) (by omega) (by omega))
  have r1 := scl_range t s e l h1 h3 h5 hl1 hl2
  have r2 := scl_mono t s e l (l + m) h1 h3 h5 hl1 (by omega) (by omega)
  have r3 : l ≤ s → scl t s e l = t := fun h => if_pos h
  have r4 : ¬ l ≤ s → scl t s e l = max 1 (t * (e - l) / (e - s)) := fun h => if_neg h
  generalize scl t s e l = A at *
  generalize scl t s e (l + m) = B at *
  obtain ⟨r5, r6⟩ := r1
  have k1 : ¬ A < 1 := by omega
  have k2 : ¬ t < A := by omega
  have k3 : ¬ A < B := by omega
  go_enter Tryd.func4, Tryd.ntmps4
  go_wp2_with fail
  refine (awake_any _ (HT.out.alloc _)).mono ?_
  rintro r w1 ⟨rfl, hb1⟩
  obtain ⟨hc1, hf1⟩ := bcell hb1
  have hs1 := hb1.size
  simp at hs1
  have hb01 := bthen ((Below.refl _ w).alloc (Nat.le_refl _) _) hb1
  go_wp2_with fail
  refine (HM.out _).mono ?_
  rintro r w2 ⟨rfl, hb2⟩
  have hb02 := bthen hb01 hb2
  clear hc1 hf1 hb1 hb2 hs1 hb01
  go_wp2_with (first | (go_at_call 16; ((with_reducible refine (HL1.out _).mono ?_); rintro e w' ⟨rfl, rfl⟩)) | (go_at_call 16; ((with_reducible refine (HL2.out _).mono ?_); rintro e w' ⟨rfl, rfl⟩)))
  refine (HS1.out _).mono ?_
  rintro r w3 ⟨rfl, hb3⟩
  have c0 := kc hb3 (new2 w2 _ _ _).1
  have c1 := kc hb3 (new2 w2 _ _ _).2
  have hb03 := bthen (hb02.alloc hb02.size _) hb3
  clear hb3
  go_wp2_with fail
  refine (HS2.out _).mono ?_
  rintro r w4 ⟨rfl, hb4⟩
  have d0 := kc hb4 c0
  have d1 := kc hb4 c1
  have hb04 := bthen hb03 hb4
  clear hb4 c0 c1
  by_cases hls : l ≤ s
  · obtain rfl := r3 hls
    clear r3 r4
    go_wp2_with fail
    go_quiet (fail)
    go_wp2_with fail
    go_ret
    exact ⟨rfl, below_drewN hb04 _⟩
  · have r5' := r4 (by omega)
    have q1 : 0 ≤ t * (e - l) ∧ t * (e - l) ≤ 16777215 * 10000 := ⟨Int.mul_nonneg (by omega) (by omega), Int.mul_le_mul (by omega) (by omega) (by omega) (by omega)⟩
    have q2 : 0 ≤ A * (e - s) ∧ A * (e - s) ≤ 16777215 * 10000 := ⟨Int.mul_nonneg (by omega) (by omega), Int.mul_le_mul (by omega) (by omega) (by omega) (by omega)⟩
    have q3 : 0 ≤ (A + 1) * (e - s) ∧ (A + 1) * (e - s) ≤ 16777216 * 10000 := ⟨Int.mul_nonneg (by omega) (by omega), Int.mul_le_mul (by omega) (by omega) (by omega) (by omega)⟩
    have dm := Int.mul_ediv_add_emod (t * (e - l)) (e - s)
    have dn := Int.emod_nonneg (t * (e - l)) (show e - s ≠ 0 by omega)
    have dl := Int.emod_lt_of_pos (t * (e - l)) (show 0 < e - s by omega)
    have hfin : A = 1 ∧ t * (e - l) < 2 * (e - s) ∨ A * (e - s) ≤ t * (e - l) ∧ t * (e - l) < (A + 1) * (e - s) := by
      generalize hQ : t * (e - l) / (e - s) = Q at *
      by_cases hQ1 : Q ≤ 1
      · left
        have : A = 1 := by omega
        refine ⟨this, ?_⟩
        have := Int.mul_le_mul_of_nonneg_left hQ1 (show 0 ≤ e - s by omega)
        omega
      · right
        have : A = Q := by omega
        subst this
        rw [Int.mul_comm A, Int.mul_comm (A + 1), Int.mul_add]
        omega
    have hs' : decide (l ≤ s) = false := by simpa using hls
    obtain ⟨q1, q1'⟩ := q1
    obtain ⟨q2, q2'⟩ := q2
    obtain ⟨q3, q3'⟩ := q3
    clear r3 r4 dm dn dl r5'
    rcases hfin with ⟨rfl, f1⟩ | ⟨f1, f2⟩
    · go_wp2_with fail
      go_quiet (fail)
      go_wp2_with fail
      go_ret
      exact ⟨rfl, below_drewN hb04 _⟩
    · cases hA : A == 1
      · go_wp2_with fail
        go_quiet (fail)
        go_wp2_with fail
        go_ret
        exact ⟨rfl, below_drewN hb04 _⟩
      · have hA' : A = 1 := by simpa using hA
        subst hA'
        have f3 : t * (e - l) < 2 * (e - s) := by omega
        clear hA
        go_wp2_with fail
        go_quiet (fail)
        go_wp2_with fail
        go_ret
        exact ⟨rfl, below_drewN hb04 _⟩

end Go.Proofs.YtkcgijkccpiljaaDoor
