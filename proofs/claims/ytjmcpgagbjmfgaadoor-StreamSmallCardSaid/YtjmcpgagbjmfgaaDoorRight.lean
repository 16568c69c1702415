/-
  The contracts of stream.Right and Name, and of Open in one form.
-/
import Derived.Test.YtjmcpgagbjmfgaaDoorOpen
namespace Go.Proofs.YtjmcpgagbjmfgaaDoor
open Go.RowKit
set_option linter.unusedVariables false

/-- The flow that a packet opens. -/
def opn (kind typ : Int) : Int × Int × Int := if opens kind typ then (kind, 1, typOf kind typ) else (0, 0, 0)
def flv (x : Int × Int × Int) : Value := fl x.1 x.2.1 x.2.2

theorem open_any (F : Array Value) (kind typ : Int) (w : World) (h : Fa F kind typ) (hA : Ans w) :
    Calls Tryd.prog 13 #[.agg F] w fun e w' => e = .returned (.tuple #[flv (opn kind typ), .bool (opens kind typ)]) ∧ Below w.heap.size w w' := by
  by_cases h2 : kind = 2
  · subst h2
    exact openU_any F typ w h
  · by_cases h3 : kind = 3
    · subst h3
      cases hq : isq typ
      · have e1 : opens 3 typ = false := by simp [opens, hq]
        have e2 : opn 3 typ = (0, 0, 0) := by simp [opn, e1]
        rw [e1, e2]
        exact openQ_no F typ w h hq hA
      · have e1 : opens 3 typ = true := by simp [opens, hq]
        have e2 : opn 3 typ = (3, 1, typ) := by simp [opn, e1, typOf]
        rw [e1, e2]
        exact openQ_yes F typ w h hq hA
    · have e1 : opens kind typ = false := by simp [opens, h2, h3]
      have e2 : opn kind typ = (0, 0, 0) := by simp [opn, e1]
      rw [e1, e2]
      exact openF_any F kind typ w h (by simpa using h2) (by simpa using h3)

/-- A packet with a kind and a type alone. -/
def pkt (k t : Int) : Array Value := #[.int .u8 0, .int .u32 0, .int .u32 0, .int .u16 0, .int .u16 0, .int .u8 k, .int .u8 0, .int .u8 t, .int .u8 0, .int .u32 0, .int .u32 0, .int .i64 0, .int .i64 0, .int .u8 0, .int .u32 0, .int .u32 0, .int .u16 0, .int .u16 0, .int .u8 0]
theorem fa_pkt (k t : Int) (h : 0 ≤ k ∧ k ≤ 255) (h1 : 0 ≤ t ∧ t ≤ 255) : Fa (pkt k t) k t := ⟨rfl, rfl, rfl, h, h1⟩

/-- Is a flow right? -/
def rt (k s t : Int) : Bool := opens k t && (t == typOf k t && (s == 1 || s == 2))

theorem cell_new3 (w : World) (a b c : Value) (t : TypeId) : (w.alloc (.cells #[a, b, c] t)).cell? ⟨w.heap.size, 0, none⟩ = some a ∧ (w.alloc (.cells #[a, b, c] t)).cell? ⟨w.heap.size, 1, none⟩ = some b ∧ (w.alloc (.cells #[a, b, c] t)).cell? ⟨w.heap.size, 2, none⟩ = some c := by
  simp [go_sem]

set_option maxHeartbeats 1000000 in
theorem right_no (k s t : Int) (w : World) (hk : 0 ≤ k ∧ k ≤ 255) (ht : 0 ≤ t ∧ t ≤ 255) (hA : Hid (Ans w)) (ho : Hid (opens k t = false)) :
    Calls Tryd.prog 16 #[fl k s t] w fun e w' => e = .returned (.bool false) ∧ Below w.heap.size w w' := by
  unfold fl
  go_enter Tryd.func16, Tryd.ntmps16
  go_wp2_with fail
  refine (open_any (pkt k t) k t _ (fa_pkt k t hk ht) (hA.out.alloc _)).mono ?_
  rintro e w1 ⟨he, hb⟩
  rw [ho.out, opn, ho.out] at he
  subst he
  simp only [flv, fl]
  have hb0 := bthen ((Below.refl _ w).alloc (Nat.le_refl _) _) hb
  have hz := hb.size
  simp only [World.size_alloc] at hz
  go_wp2_with fail
  go_ret
  exact ⟨rfl, by (repeat' (first | with_reducible exact hb0 | exact Below.refl _ _ | refine Below.setCell ?_ (by first | omega | (simp; done) | (simp; omega)) _ | refine Below.alloc ?_ (by first | omega | (simp; done) | (simp; omega)) _))⟩

set_option maxHeartbeats 1000000 in
theorem right_yes (k s t t' : Int) (w : World) (hk : 0 ≤ k ∧ k ≤ 255) (ht : 0 ≤ t ∧ t ≤ 255) (hA : Hid (Ans w)) (ho : Hid (opens k t = true)) (ht' : Hid (typOf k t = t')) :
    Calls Tryd.prog 16 #[fl k s t] w fun e w' => e = .returned (.bool (t == t' && (s == 1 || s == 2))) ∧ Below w.heap.size w w' := by
  unfold fl
  obtain ⟨q0, q1, q2⟩ := cell_new3 w (.int .u8 k) (.int .u8 s) (.int .u8 t) 23
  go_enter Tryd.func16, Tryd.ntmps16
  go_wp2_with fail
  refine (open_any (pkt k t) k t _ (fa_pkt k t hk ht) (hA.out.alloc _)).mono ?_
  rintro e w1 ⟨he, hb⟩
  rw [ho.out, opn, ho.out, if_pos rfl, ht'.out] at he
  subst he
  simp only [flv, fl]
  have hb0 := bthen ((Below.refl _ w).alloc (Nat.le_refl _) _) hb
  have hz := hb.size
  simp only [World.size_alloc] at hz
  have c0 := (hb.cell (p := ⟨w.heap.size, 0, none⟩) (by simp)).trans q0
  have c1 := (hb.cell (p := ⟨w.heap.size, 1, none⟩) (by simp)).trans q1
  have c2 := (hb.cell (p := ⟨w.heap.size, 2, none⟩) (by simp)).trans q2
  have hz0 : w.heap.size < w1.heap.size := by omega
  clear q0 q1 q2 hz
  cases e1 : s == 1
  all_goals cases e2 : s == 2
  all_goals cases e3 : t == t'
  all_goals try (exfalso; simp at e1 e2; omega)
  all_goals
    go_wp2_with fail
    go_ret
    exact ⟨by first | rfl | simp_all, by (repeat' (first | with_reducible exact hb0 | exact Below.refl _ _ | refine Below.setCell ?_ (by first | omega | (simp; done) | (simp; omega)) _ | refine Below.alloc ?_ (by first | omega | (simp; done) | (simp; omega)) _))⟩

theorem right_any (k s t : Int) (w : World) (hk : 0 ≤ k ∧ k ≤ 255) (ht : 0 ≤ t ∧ t ≤ 255) (hA : Ans w) :
    Calls Tryd.prog 16 #[fl k s t] w fun e w' => e = .returned (.bool (rt k s t)) ∧ Below w.heap.size w w' := by
  cases ho : opens k t
  · have e : rt k s t = false := by simp [rt, ho]
    rw [e]
    exact right_no k s t w hk ht hA ho
  · have e : rt k s t = (t == typOf k t && (s == 1 || s == 2)) := by simp [rt, ho]
    rw [e]
    exact right_yes k s t _ w hk ht hA ho rfl

/-- The names of states. -/
def nme (s : Int) : ByteArray := if s = 1 then ⟨#[97, 115, 107, 101, 100]⟩ else if s = 2 then ⟨#[97, 110, 115, 119, 101, 114, 101, 100]⟩ else ⟨#[]⟩
theorem name_any (s : Int) (w : World) : Calls Tryd.prog 17 #[.int .u8 s] w fun e w' => e = .returned (.string (nme s)) ∧ w = w' := by
  by_cases h1 : s = 1
  · subst h1
    go_enter Tryd.func17, Tryd.ntmps17
    go_wp2
    go_ret
    exact ⟨rfl, rfl⟩
  by_cases h2 : s = 2
  · subst h2
    go_enter Tryd.func17, Tryd.ntmps17
    go_wp2
    go_ret
    exact ⟨rfl, rfl⟩
  have e : nme s = ⟨#[]⟩ := by simp [nme, h1, h2]
  rw [e]
  have g1 : (s == 1) = false := by simpa using h1
  have g2 : (s == 2) = false := by simpa using h2
  clear e h1 h2
  go_enter Tryd.func17, Tryd.ntmps17
  go_wp2
  go_ret
  exact ⟨rfl, rfl⟩

end Go.Proofs.YtjmcpgagbjmfgaaDoor
