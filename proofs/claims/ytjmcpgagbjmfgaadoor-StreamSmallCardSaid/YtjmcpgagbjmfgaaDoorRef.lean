/-
  The contracts of package baffleref22: Answer, Open, Right, Step return what the plain functions of the contracts of package stream give.
-/
import Derived.Test.YtjmcpgagbjmfgaaDoorRight
namespace Go.Proofs.YtjmcpgagbjmfgaaDoor
open Go.RowKit
set_option linter.unusedVariables false

/-- The reference's answer: -1 where there is none. -/
def rans (t : Int) : Int := if isq t then ans t else -1

theorem ranswer_any (t : Int) (w : World) (ht : 0 ≤ t) (ht1 : t ≤ 255) : Calls Tryd.prog 20 #[.int .u8 t] w fun e w' => e = .returned (.int .i64 (rans t)) ∧ w = w' := by
  by_cases h8 : t = 8
  · subst h8
    go_enter Tryd.func20, Tryd.ntmps20
    go_wp2
    go_ret
    exact ⟨rfl, rfl⟩
  by_cases h13 : t = 13
  · subst h13
    go_enter Tryd.func20, Tryd.ntmps20
    go_wp2
    go_ret
    exact ⟨rfl, rfl⟩
  by_cases h17 : t = 17
  · subst h17
    go_enter Tryd.func20, Tryd.ntmps20
    go_wp2
    go_ret
    exact ⟨rfl, rfl⟩
  have e : rans t = -1 := by simp [rans, isq, h8, h13, h17]
  rw [e]
  have g8 : (t == 8) = false := by simpa using h8
  have g13 : (t == 13) = false := by simpa using h13
  have g17 : (t == 17) = false := by simpa using h17
  clear e h8 h13 h17
  go_enter Tryd.func20, Tryd.ntmps20
  go_wp2
  go_ret
  exact ⟨rfl, rfl⟩

theorem rans_q (t : Int) : decide (0 ≤ rans t) = isq t := by
  unfold rans
  cases h : isq t
  · simp
  · simp only [if_true, ans]
    split
    · rfl
    · split <;> rfl

set_option maxHeartbeats 400000 in
theorem ropen_any (F : Array Value) (kind typ : Int) (w : World) (h : Fa F kind typ) :
    Calls Tryd.prog 21 #[.agg F] w fun e w' => e = .returned (.tuple #[flv (opn kind typ), .bool (opens kind typ)]) ∧ (w.alloc (.cells F 29)).alloc (.cells #[.int .u8 (opn kind typ).1, .int .u8 (opn kind typ).2.1, .int .u8 (opn kind typ).2.2] 55) = w' := by
  have f1 := h.ckind
  have f2 := h.ctype
  obtain ⟨b1, b2⟩ := h.bt
  clear h
  by_cases h2 : kind = 2
  · subst h2
    have e : opn 2 typ = (2, 1, 0) := rfl
    have e1 : opens 2 typ = true := rfl
    rw [e, e1]
    clear e e1
    go_enter Tryd.func21, Tryd.ntmps21
    go_wp2
    exact bodyPost_ret (v := .tuple #[fl 2 1 0, .bool true]) (by simp [results, Tryd.results21, go_sem, fl]) rfl ⟨rfl, rfl⟩
  by_cases h3 : kind = 3
  · subst h3
    cases hq : isq typ
    · have e1 : opens 3 typ = false := by simp [opens, hq]
      have e2 : opn 3 typ = (0, 0, 0) := by simp [opn, e1]
      have hr := rans_q typ
      rw [hq] at hr
      rw [e1, e2]
      clear e1 e2 hq
      go_enter Tryd.func21, Tryd.ntmps21
      go_wp2_with fail
      refine (ranswer_any typ _ b1 b2).mono ?_
      rintro e w' ⟨rfl, rfl⟩
      go_wp2_with fail
      exact bodyPost_ret (v := .tuple #[fl 0 0 0, .bool false]) (by simp [results, Tryd.results21, go_sem, fl]) rfl ⟨rfl, rfl⟩
    · have e1 : opens 3 typ = true := by simp [opens, hq]
      have e2 : opn 3 typ = (3, 1, typ) := by simp [opn, e1, typOf]
      have hr := rans_q typ
      rw [hq] at hr
      rw [e1, e2]
      clear e1 e2 hq
      go_enter Tryd.func21, Tryd.ntmps21
      go_wp2_with fail
      refine (ranswer_any typ _ b1 b2).mono ?_
      rintro e w' ⟨rfl, rfl⟩
      go_wp2_with fail
      exact bodyPost_ret (v := .tuple #[fl 3 1 typ, .bool true]) (by simp [results, Tryd.results21, go_sem, fl]) rfl ⟨rfl, rfl⟩
  have e1 : opens kind typ = false := by simp [opens, h2, h3]
  have e2 : opn kind typ = (0, 0, 0) := by simp [opn, e1]
  have g2 : (kind == 2) = false := by simpa using h2
  have g3 : (kind == 3) = false := by simpa using h3
  rw [e1, e2]
  clear e1 e2 h2 h3
  go_enter Tryd.func21, Tryd.ntmps21
  go_wp2_with fail
  exact bodyPost_ret (v := .tuple #[fl 0 0 0, .bool false]) (by simp [results, Tryd.results21, go_sem, fl]) rfl ⟨rfl, rfl⟩

theorem rt_eq (k s t : Int) : rt k s t = ((s == 1 || s == 2) && (k == 2 && t == 0 || k == 3 && isq t)) := by
  by_cases h2 : k = 2
  · subst h2
    simp [rt, opens, typOf, Bool.and_comm]
  · by_cases h3 : k = 3
    · subst h3
      simp [rt, opens, typOf, Bool.and_comm]
    · have g2 : (k == 2) = false := by simpa using h2
      have g3 : (k == 3) = false := by simpa using h3
      simp [rt, opens, g2, g3]

set_option maxHeartbeats 1000000 in
theorem rright_any (k s t : Int) (w : World) (ht : 0 ≤ t) (ht1 : t ≤ 255) :
    Calls Tryd.prog 23 #[fl k s t] w fun e w' => e = .returned (.bool (rt k s t)) ∧ w.alloc (.cells #[.int .u8 k, .int .u8 s, .int .u8 t] 55) = w' := by
  rw [rt_eq]
  have hr := rans_q t
  unfold fl
  cases e1 : s == 1
  all_goals cases e2 : s == 2
  all_goals cases e3 : k == 2
  all_goals cases e4 : k == 3
  all_goals cases e5 : t == 0
  all_goals try (exfalso; simp at e1 e2; omega)
  all_goals try (exfalso; simp at e3 e4; omega)
  all_goals
    have g1 : (s != 1) = !(s == 1) := rfl
    have g2 : (s != 2) = !(s == 2) := rfl
    rw [e1] at g1
    rw [e2] at g2
    simp only [Bool.not_true, Bool.not_false] at g1 g2
    go_enter Tryd.func23, Tryd.ntmps23
    go_wp2_with (go_at_call 20; refine (ranswer_any t _ ht ht1).mono ?_; rintro e w' ⟨rfl, rfl⟩)
    go_ret
    exact ⟨by first | rfl | simp [hr], rfl⟩

end Go.Proofs.YtjmcpgagbjmfgaaDoor
