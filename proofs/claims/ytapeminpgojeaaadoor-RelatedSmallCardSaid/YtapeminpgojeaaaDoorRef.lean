/-
  The contracts of the reference's Kind, Lookup, Quotes and Turn: each gives what the program's own gives. Conditions: the numbers lie in their types' ranges.
-/
import Derived.Test.YtapeminpgojeaaaDoorQuotes
import Derived.Deep.RegionHeld3
namespace Go.Proofs.YtapeminpgojeaaaDoor
open Go.RowKit
set_option linter.unusedVariables false
set_option linter.unusedSimpArgs false

theorem rturn_any (p s d sp dp : Int) (w : World) :
    Calls Tryd.prog 30 #[.agg #[.int .u8 p, .int .u32 s, .int .u32 d, .int .u16 sp, .int .u16 dp]] w fun e w' => e = .returned (.agg #[.int .u8 p, .int .u32 d, .int .u32 s, .int .u16 dp, .int .u16 sp]) ∧ (w.alloc (.cells #[.int .u8 p, .int .u32 s, .int .u32 d, .int .u16 sp, .int .u16 dp] 25)).alloc (.cells #[.int .u8 p, .int .u32 d, .int .u32 s, .int .u16 dp, .int .u16 sp] 25) = w' := by
  go_enter Tryd.func30, Tryd.ntmps30
  go_wp2
  exact bodyPost_ret (v := .agg #[.int .u8 p, .int .u32 d, .int .u32 s, .int .u16 dp, .int .u16 sp]) (by simp [results, Tryd.results30, go_sem]) rfl ⟨rfl, rfl⟩

theorem rkind_any (p s d sp dp dir : Int) (w : World) (hd : 0 ≤ dir ∧ dir ≤ 255) :
    Calls Tryd.prog 23 #[.agg #[.int .u8 p, .int .u32 s, .int .u32 d, .int .u16 sp, .int .u16 dp], .int .u8 dir] w fun e w' => e = .returned (.tuple #[.int .u8 (kd p dir), .bool (kok p dir)]) ∧
      w.alloc (.cells #[.int .u8 p, .int .u32 s, .int .u32 d, .int .u16 sp, .int .u16 dp] 25) = w' := by
  by_cases h2 : 1 < dir
  · have e1 : kd p dir = 0 := by unfold kd; rw [if_neg (by omega), if_neg (by omega)]
    have e2 : kok p dir = false := by unfold kok; rw [decide_eq_false (by omega), Bool.and_false]
    rw [e1, e2]
    have e3 : decide (1 < dir) = true := decide_eq_true h2
    clear e1 e2 h2 hd
    go_enter Tryd.func23, Tryd.ntmps23
    go_wp2
    go_ret2
    exact ⟨rfl, rfl⟩
  · have hd' : dir = 0 ∨ dir = 1 := by omega
    clear h2 hd
    by_cases h6 : p = 6
    · subst h6
      rcases hd' with rfl | rfl
      all_goals
        go_enter Tryd.func23, Tryd.ntmps23
        go_wp2
        go_ret2
        exact ⟨by simp [kd, kok, ko, kr, known], rfl⟩
    · by_cases h17 : p = 17
      · subst h17
        rcases hd' with rfl | rfl
        all_goals
          go_enter Tryd.func23, Tryd.ntmps23
          go_wp2
          go_ret2
          exact ⟨by simp [kd, kok, ko, kr, known], rfl⟩
      · by_cases h1 : p = 1
        · subst h1
          rcases hd' with rfl | rfl
          all_goals
            go_enter Tryd.func23, Tryd.ntmps23
            go_wp2
            go_ret2
            exact ⟨by simp [kd, kok, ko, kr, known], rfl⟩
        · have g6 : (p == 6) = false := by simpa using h6
          have g17 : (p == 17) = false := by simpa using h17
          have g1 : (p == 1) = false := by simpa using h1
          have e1 : kd p dir = 0 := by simp [kd, ko, kr, h6, h17, h1]
          have e2 : kok p dir = false := by simp [kok, known, h6, h17, h1]
          rw [e1, e2]
          clear e1 e2 h6 h17 h1
          rcases hd' with rfl | rfl
          all_goals
            go_enter Tryd.func23, Tryd.ntmps23
            go_wp2
            go_ret2
            exact ⟨rfl, rfl⟩

theorem rkind_0 (p s d sp dp : Int) (w : World) : Calls Tryd.prog 23 #[.agg #[.int .u8 p, .int .u32 s, .int .u32 d, .int .u16 sp, .int .u16 dp], .int .u8 0] w fun e w' => e = .returned (.tuple #[.int .u8 (ko p), .bool (known p)]) ∧
      w.alloc (.cells #[.int .u8 p, .int .u32 s, .int .u32 d, .int .u16 sp, .int .u16 dp] 25) = w' :=
  (rkind_any p s d sp dp 0 w (by decide)).mono fun e w' ⟨h1, h2⟩ => ⟨by rw [h1]; simp [kd, kok], h2⟩
theorem rkind_1 (p s d sp dp : Int) (w : World) : Calls Tryd.prog 23 #[.agg #[.int .u8 p, .int .u32 s, .int .u32 d, .int .u16 sp, .int .u16 dp], .int .u8 1] w fun e w' => e = .returned (.tuple #[.int .u8 (kr p), .bool (known p)]) ∧
      w.alloc (.cells #[.int .u8 p, .int .u32 s, .int .u32 d, .int .u16 sp, .int .u16 dp] 25) = w' :=
  (rkind_any p s d sp dp 1 w (by decide)).mono fun e w' ⟨h1, h2⟩ => ⟨by rw [h1]; simp [kd, kok], h2⟩

set_option maxHeartbeats 8000000 in
theorem rlookup_any (F : Array Value) (dst kind typ qp qs qd qsp qdp qk : Int) (w : World) (h : Fa F dst kind typ qp qs qd qsp qdp qk) :
    Calls Tryd.prog 24 #[.agg F] w fun e w' => e = .returned (.tuple #[.agg #[.int .u8 (pk (can dst kind typ qp qs qk) qp), .int .u32 (pk (can dst kind typ qp qs qk) qs), .int .u32 (pk (can dst kind typ qp qs qk) qd), .int .u16 (pk (can dst kind typ qp qs qk) qsp), .int .u16 (pk (can dst kind typ qp qs qk) qdp)], .bool (can dst kind typ qp qs qk)]) ∧ Below w.heap.size w w' := by
  have K0 := Lib.hid (fun W => rkind_0 qp qs qd qsp qdp W)
  have K1 := Lib.hid (fun W => rkind_1 qp qs qd qsp qdp W)
  have g2 := h.c2
  have g5 := h.c5
  have g7 := h.c7
  have g13 := h.c13
  have g14 := h.c14
  have g15 := h.c15
  have g16 := h.c16
  have g17 := h.c17
  have g18 := h.c18
  clear h
  obtain ⟨c, hc⟩ : ∃ c, can dst kind typ qp qs qk = c := ⟨_, rfl⟩
  rw [hc]
  unfold can hrd at hc
  generalize known qp = k at *
  generalize ko qp = x at *
  generalize kr qp = y at *
  cases h5 : kind != 5
  · cases t3 : typ != 3
    · cases hd : dst != qs
      · cases k
        · obtain rfl : c = false := by clear K0 K1; cases c with | false => rfl | true => exfalso; simp at hc <;> simp_all <;> omega
          clear hc
          simp only [pk, if_true, Bool.false_eq_true, if_false]
          go_enter Tryd.func24, Tryd.ntmps24
          go_wp2_with fail
          refine wp_loop_rounds 3 ?_
          rw [rounds_succ]
          go_wp2_with fail
          refine (K0.out _).mono ?_
          rintro e w' ⟨rfl, rfl⟩
          go_wp2_with fail
          rw [rounds_succ]
          go_wp2_with fail
          refine (K1.out _).mono ?_
          rintro e w' ⟨rfl, rfl⟩
          go_wp2_with fail
          rw [rounds_succ]
          go_wp2_with fail
          exact bodyPost_ret (v := .tuple #[.agg #[.int .u8 0, .int .u32 0, .int .u32 0, .int .u16 0, .int .u16 0], .bool false]) (by simp [results, Tryd.results24, go_sem]) rfl ⟨rfl, by (repeat' (first | exact Below.refl _ _ | refine Below.setCell ?_ (by first | omega | (simp; done) | (simp; omega)) _ | refine Below.alloc ?_ (by first | omega | (simp; done) | (simp; omega)) _))⟩
        · cases e1 : x == qk
          · cases e2 : y == qk
            · obtain rfl : c = false := by clear K0 K1; cases c with | false => rfl | true => exfalso; simp at hc <;> simp_all <;> omega
              clear hc
              simp only [pk, if_true, Bool.false_eq_true, if_false]
              go_enter Tryd.func24, Tryd.ntmps24
              go_wp2_with fail
              refine wp_loop_rounds 3 ?_
              rw [rounds_succ]
              go_wp2_with fail
              refine (K0.out _).mono ?_
              rintro e w' ⟨rfl, rfl⟩
              go_wp2_with fail
              rw [rounds_succ]
              go_wp2_with fail
              refine (K1.out _).mono ?_
              rintro e w' ⟨rfl, rfl⟩
              go_wp2_with fail
              rw [rounds_succ]
              go_wp2_with fail
              exact bodyPost_ret (v := .tuple #[.agg #[.int .u8 0, .int .u32 0, .int .u32 0, .int .u16 0, .int .u16 0], .bool false]) (by simp [results, Tryd.results24, go_sem]) rfl ⟨rfl, by (repeat' (first | exact Below.refl _ _ | refine Below.setCell ?_ (by first | omega | (simp; done) | (simp; omega)) _ | refine Below.alloc ?_ (by first | omega | (simp; done) | (simp; omega)) _))⟩
            · obtain rfl : c = true := by rw [← hc]; simp_all
              clear hc
              simp only [pk, if_true, Bool.false_eq_true, if_false]
              go_enter Tryd.func24, Tryd.ntmps24
              go_wp2_with fail
              refine wp_loop_rounds 3 ?_
              rw [rounds_succ]
              go_wp2_with fail
              refine (K0.out _).mono ?_
              rintro e w' ⟨rfl, rfl⟩
              go_wp2_with fail
              rw [rounds_succ]
              go_wp2_with fail
              refine (K1.out _).mono ?_
              rintro e w' ⟨rfl, rfl⟩
              go_wp2_with fail
              exact bodyPost_ret (v := .tuple #[.agg #[.int .u8 qp, .int .u32 qs, .int .u32 qd, .int .u16 qsp, .int .u16 qdp], .bool true]) (by simp [results, Tryd.results24, go_sem]) rfl ⟨rfl, by (repeat' (first | exact Below.refl _ _ | refine Below.setCell ?_ (by first | omega | (simp; done) | (simp; omega)) _ | refine Below.alloc ?_ (by first | omega | (simp; done) | (simp; omega)) _))⟩
          · obtain rfl : c = true := by rw [← hc]; simp_all
            clear hc
            simp only [pk, if_true, Bool.false_eq_true, if_false]
            go_enter Tryd.func24, Tryd.ntmps24
            go_wp2_with fail
            refine wp_loop_rounds 3 ?_
            rw [rounds_succ]
            go_wp2_with fail
            refine (K0.out _).mono ?_
            rintro e w' ⟨rfl, rfl⟩
            go_wp2_with fail
            exact bodyPost_ret (v := .tuple #[.agg #[.int .u8 qp, .int .u32 qs, .int .u32 qd, .int .u16 qsp, .int .u16 qdp], .bool true]) (by simp [results, Tryd.results24, go_sem]) rfl ⟨rfl, by (repeat' (first | exact Below.refl _ _ | refine Below.setCell ?_ (by first | omega | (simp; done) | (simp; omega)) _ | refine Below.alloc ?_ (by first | omega | (simp; done) | (simp; omega)) _))⟩
      · obtain rfl : c = false := by clear K0 K1; cases c with | false => rfl | true => exfalso; simp at hc <;> simp_all <;> omega
        clear hc
        simp only [pk, if_true, Bool.false_eq_true, if_false]
        go_enter Tryd.func24, Tryd.ntmps24
        go_wp2_with fail
        exact bodyPost_ret (v := .tuple #[.agg #[.int .u8 0, .int .u32 0, .int .u32 0, .int .u16 0, .int .u16 0], .bool false]) (by simp [results, Tryd.results24, go_sem]) rfl ⟨rfl, by (repeat' (first | exact Below.refl _ _ | refine Below.setCell ?_ (by first | omega | (simp; done) | (simp; omega)) _ | refine Below.alloc ?_ (by first | omega | (simp; done) | (simp; omega)) _))⟩
    · cases t11 : typ != 11
      · cases hd : dst != qs
        · cases k
          · obtain rfl : c = false := by clear K0 K1; cases c with | false => rfl | true => exfalso; simp at hc <;> simp_all <;> omega
            clear hc
            simp only [pk, if_true, Bool.false_eq_true, if_false]
            go_enter Tryd.func24, Tryd.ntmps24
            go_wp2_with fail
            refine wp_loop_rounds 3 ?_
            rw [rounds_succ]
            go_wp2_with fail
            refine (K0.out _).mono ?_
            rintro e w' ⟨rfl, rfl⟩
            go_wp2_with fail
            rw [rounds_succ]
            go_wp2_with fail
            refine (K1.out _).mono ?_
            rintro e w' ⟨rfl, rfl⟩
            go_wp2_with fail
            rw [rounds_succ]
            go_wp2_with fail
            exact bodyPost_ret (v := .tuple #[.agg #[.int .u8 0, .int .u32 0, .int .u32 0, .int .u16 0, .int .u16 0], .bool false]) (by simp [results, Tryd.results24, go_sem]) rfl ⟨rfl, by (repeat' (first | exact Below.refl _ _ | refine Below.setCell ?_ (by first | omega | (simp; done) | (simp; omega)) _ | refine Below.alloc ?_ (by first | omega | (simp; done) | (simp; omega)) _))⟩
          · cases e1 : x == qk
            · cases e2 : y == qk
              · obtain rfl : c = false := by clear K0 K1; cases c with | false => rfl | true => exfalso; simp at hc <;> simp_all <;> omega
                clear hc
                simp only [pk, if_true, Bool.false_eq_true, if_false]
                go_enter Tryd.func24, Tryd.ntmps24
                go_wp2_with fail
                refine wp_loop_rounds 3 ?_
                rw [rounds_succ]
                go_wp2_with fail
                refine (K0.out _).mono ?_
                rintro e w' ⟨rfl, rfl⟩
                go_wp2_with fail
                rw [rounds_succ]
                go_wp2_with fail
                refine (K1.out _).mono ?_
                rintro e w' ⟨rfl, rfl⟩
                go_wp2_with fail
                rw [rounds_succ]
                go_wp2_with fail
                exact bodyPost_ret (v := .tuple #[.agg #[.int .u8 0, .int .u32 0, .int .u32 0, .int .u16 0, .int .u16 0], .bool false]) (by simp [results, Tryd.results24, go_sem]) rfl ⟨rfl, by (repeat' (first | exact Below.refl _ _ | refine Below.setCell ?_ (by first | omega | (simp; done) | (simp; omega)) _ | refine Below.alloc ?_ (by first | omega | (simp; done) | (simp; omega)) _))⟩
              · obtain rfl : c = true := by rw [← hc]; simp_all
                clear hc
                simp only [pk, if_true, Bool.false_eq_true, if_false]
                go_enter Tryd.func24, Tryd.ntmps24
                go_wp2_with fail
                refine wp_loop_rounds 3 ?_
                rw [rounds_succ]
                go_wp2_with fail
                refine (K0.out _).mono ?_
                rintro e w' ⟨rfl, rfl⟩
                go_wp2_with fail
                rw [rounds_succ]
                go_wp2_with fail
                refine (K1.out _).mono ?_
                rintro e w' ⟨rfl, rfl⟩
                go_wp2_with fail
                exact bodyPost_ret (v := .tuple #[.agg #[.int .u8 qp, .int .u32 qs, .int .u32 qd, .int .u16 qsp, .int .u16 qdp], .bool true]) (by simp [results, Tryd.results24, go_sem]) rfl ⟨rfl, by (repeat' (first | exact Below.refl _ _ | refine Below.setCell ?_ (by first | omega | (simp; done) | (simp; omega)) _ | refine Below.alloc ?_ (by first | omega | (simp; done) | (simp; omega)) _))⟩
            · obtain rfl : c = true := by rw [← hc]; simp_all
              clear hc
              simp only [pk, if_true, Bool.false_eq_true, if_false]
              go_enter Tryd.func24, Tryd.ntmps24
              go_wp2_with fail
              refine wp_loop_rounds 3 ?_
              rw [rounds_succ]
              go_wp2_with fail
              refine (K0.out _).mono ?_
              rintro e w' ⟨rfl, rfl⟩
              go_wp2_with fail
              exact bodyPost_ret (v := .tuple #[.agg #[.int .u8 qp, .int .u32 qs, .int .u32 qd, .int .u16 qsp, .int .u16 qdp], .bool true]) (by simp [results, Tryd.results24, go_sem]) rfl ⟨rfl, by (repeat' (first | exact Below.refl _ _ | refine Below.setCell ?_ (by first | omega | (simp; done) | (simp; omega)) _ | refine Below.alloc ?_ (by first | omega | (simp; done) | (simp; omega)) _))⟩
        · obtain rfl : c = false := by clear K0 K1; cases c with | false => rfl | true => exfalso; simp at hc <;> simp_all <;> omega
          clear hc
          simp only [pk, if_true, Bool.false_eq_true, if_false]
          go_enter Tryd.func24, Tryd.ntmps24
          go_wp2_with fail
          exact bodyPost_ret (v := .tuple #[.agg #[.int .u8 0, .int .u32 0, .int .u32 0, .int .u16 0, .int .u16 0], .bool false]) (by simp [results, Tryd.results24, go_sem]) rfl ⟨rfl, by (repeat' (first | exact Below.refl _ _ | refine Below.setCell ?_ (by first | omega | (simp; done) | (simp; omega)) _ | refine Below.alloc ?_ (by first | omega | (simp; done) | (simp; omega)) _))⟩
      · cases t12 : typ != 12
        · cases hd : dst != qs
          · cases k
            · obtain rfl : c = false := by clear K0 K1; cases c with | false => rfl | true => exfalso; simp at hc <;> simp_all <;> omega
              clear hc
              simp only [pk, if_true, Bool.false_eq_true, if_false]
              go_enter Tryd.func24, Tryd.ntmps24
              go_wp2_with fail
              refine wp_loop_rounds 3 ?_
              rw [rounds_succ]
              go_wp2_with fail
              refine (K0.out _).mono ?_
              rintro e w' ⟨rfl, rfl⟩
              go_wp2_with fail
              rw [rounds_succ]
              go_wp2_with fail
              refine (K1.out _).mono ?_
              rintro e w' ⟨rfl, rfl⟩
              go_wp2_with fail
              rw [rounds_succ]
              go_wp2_with fail
              exact bodyPost_ret (v := .tuple #[.agg #[.int .u8 0, .int .u32 0, .int .u32 0, .int .u16 0, .int .u16 0], .bool false]) (by simp [results, Tryd.results24, go_sem]) rfl ⟨rfl, by (repeat' (first | exact Below.refl _ _ | refine Below.setCell ?_ (by first | omega | (simp; done) | (simp; omega)) _ | refine Below.alloc ?_ (by first | omega | (simp; done) | (simp; omega)) _))⟩
            · cases e1 : x == qk
              · cases e2 : y == qk
                · obtain rfl : c = false := by clear K0 K1; cases c with | false => rfl | true => exfalso; simp at hc <;> simp_all <;> omega
                  clear hc
                  simp only [pk, if_true, Bool.false_eq_true, if_false]
                  go_enter Tryd.func24, Tryd.ntmps24
                  go_wp2_with fail
                  refine wp_loop_rounds 3 ?_
                  rw [rounds_succ]
                  go_wp2_with fail
                  refine (K0.out _).mono ?_
                  rintro e w' ⟨rfl, rfl⟩
                  go_wp2_with fail
                  rw [rounds_succ]
                  go_wp2_with fail
                  refine (K1.out _).mono ?_
                  rintro e w' ⟨rfl, rfl⟩
                  go_wp2_with fail
                  rw [rounds_succ]
                  go_wp2_with fail
                  exact bodyPost_ret (v := .tuple #[.agg #[.int .u8 0, .int .u32 0, .int .u32 0, .int .u16 0, .int .u16 0], .bool false]) (by simp [results, Tryd.results24, go_sem]) rfl ⟨rfl, by (repeat' (first | exact Below.refl _ _ | refine Below.setCell ?_ (by first | omega | (simp; done) | (simp; omega)) _ | refine Below.alloc ?_ (by first | omega | (simp; done) | (simp; omega)) _))⟩
                · obtain rfl : c = true := by rw [← hc]; simp_all
                  clear hc
                  simp only [pk, if_true, Bool.false_eq_true, if_false]
                  go_enter Tryd.func24, Tryd.ntmps24
                  go_wp2_with fail
                  refine wp_loop_rounds 3 ?_
                  rw [rounds_succ]
                  go_wp2_with fail
                  refine (K0.out _).mono ?_
                  rintro e w' ⟨rfl, rfl⟩
                  go_wp2_with fail
                  rw [rounds_succ]
                  go_wp2_with fail
                  refine (K1.out _).mono ?_
                  rintro e w' ⟨rfl, rfl⟩
                  go_wp2_with fail
                  exact bodyPost_ret (v := .tuple #[.agg #[.int .u8 qp, .int .u32 qs, .int .u32 qd, .int .u16 qsp, .int .u16 qdp], .bool true]) (by simp [results, Tryd.results24, go_sem]) rfl ⟨rfl, by (repeat' (first | exact Below.refl _ _ | refine Below.setCell ?_ (by first | omega | (simp; done) | (simp; omega)) _ | refine Below.alloc ?_ (by first | omega | (simp; done) | (simp; omega)) _))⟩
              · obtain rfl : c = true := by rw [← hc]; simp_all
                clear hc
                simp only [pk, if_true, Bool.false_eq_true, if_false]
                go_enter Tryd.func24, Tryd.ntmps24
                go_wp2_with fail
                refine wp_loop_rounds 3 ?_
                rw [rounds_succ]
                go_wp2_with fail
                refine (K0.out _).mono ?_
                rintro e w' ⟨rfl, rfl⟩
                go_wp2_with fail
                exact bodyPost_ret (v := .tuple #[.agg #[.int .u8 qp, .int .u32 qs, .int .u32 qd, .int .u16 qsp, .int .u16 qdp], .bool true]) (by simp [results, Tryd.results24, go_sem]) rfl ⟨rfl, by (repeat' (first | exact Below.refl _ _ | refine Below.setCell ?_ (by first | omega | (simp; done) | (simp; omega)) _ | refine Below.alloc ?_ (by first | omega | (simp; done) | (simp; omega)) _))⟩
          · obtain rfl : c = false := by clear K0 K1; cases c with | false => rfl | true => exfalso; simp at hc <;> simp_all <;> omega
            clear hc
            simp only [pk, if_true, Bool.false_eq_true, if_false]
            go_enter Tryd.func24, Tryd.ntmps24
            go_wp2_with fail
            exact bodyPost_ret (v := .tuple #[.agg #[.int .u8 0, .int .u32 0, .int .u32 0, .int .u16 0, .int .u16 0], .bool false]) (by simp [results, Tryd.results24, go_sem]) rfl ⟨rfl, by (repeat' (first | exact Below.refl _ _ | refine Below.setCell ?_ (by first | omega | (simp; done) | (simp; omega)) _ | refine Below.alloc ?_ (by first | omega | (simp; done) | (simp; omega)) _))⟩
        · obtain rfl : c = false := by clear K0 K1; cases c with | false => rfl | true => exfalso; simp at hc <;> simp_all <;> omega
          clear hc
          simp only [pk, if_true, Bool.false_eq_true, if_false]
          go_enter Tryd.func24, Tryd.ntmps24
          go_wp2_with fail
          exact bodyPost_ret (v := .tuple #[.agg #[.int .u8 0, .int .u32 0, .int .u32 0, .int .u16 0, .int .u16 0], .bool false]) (by simp [results, Tryd.results24, go_sem]) rfl ⟨rfl, by (repeat' (first | exact Below.refl _ _ | refine Below.setCell ?_ (by first | omega | (simp; done) | (simp; omega)) _ | refine Below.alloc ?_ (by first | omega | (simp; done) | (simp; omega)) _))⟩
  · obtain rfl : c = false := by clear K0 K1; cases c with | false => rfl | true => exfalso; simp at hc <;> simp_all <;> omega
    clear hc
    simp only [pk, if_true, Bool.false_eq_true, if_false]
    go_enter Tryd.func24, Tryd.ntmps24
    go_wp2_with fail
    exact bodyPost_ret (v := .tuple #[.agg #[.int .u8 0, .int .u32 0, .int .u32 0, .int .u16 0, .int .u16 0], .bool false]) (by simp [results, Tryd.results24, go_sem]) rfl ⟨rfl, by (repeat' (first | exact Below.refl _ _ | refine Below.setCell ?_ (by first | omega | (simp; done) | (simp; omega)) _ | refine Below.alloc ?_ (by first | omega | (simp; done) | (simp; omega)) _))⟩

theorem eqK_comm (p s d sp dp p' s' d' sp' dp' : Int) : eqK p s d sp dp p' s' d' sp' dp' = eqK p' s' d' sp' dp' p s d sp dp := by
  unfold eqK
  rw [Bool.beq_comm (a := p), Bool.beq_comm (a := s), Bool.beq_comm (a := d), Bool.beq_comm (a := sp), Bool.beq_comm (a := dp)]

end Go.Proofs.YtapeminpgojeaaaDoor
