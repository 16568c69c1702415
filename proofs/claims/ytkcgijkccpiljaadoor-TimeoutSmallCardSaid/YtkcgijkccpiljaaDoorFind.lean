/-
  The contracts of timeout.Find and slices.Index, and of the reference's Name and Find.
-/
import Derived.Test.YtkcgijkccpiljaaDoorAwake
namespace Go.Proofs.YtkcgijkccpiljaaDoor
open Go.RowKit
set_option linter.unusedVariables false

def eqn (i : Nat) (s : ByteArray) : Bool := s.toList == (nm i).toList
/-- The class with a name; -1 if there is none. -/
def fnd (s : ByteArray) : Int := if eqn 0 s then 0 else if eqn 1 s then 1 else if eqn 2 s then 2 else if eqn 3 s then 3 else if eqn 4 s then 4 else if eqn 5 s then 5 else if eqn 6 s then 6 else if eqn 7 s then 7 else if eqn 8 s then 8 else -1
theorem fnd_at (s : ByteArray) (k : Nat) (hk : k < 9) (h : ∀ j, j < k → eqn j s = false) (he : eqn k s = true) : fnd s = k := by
  have hk' : k = 0 ∨ k = 1 ∨ k = 2 ∨ k = 3 ∨ k = 4 ∨ k = 5 ∨ k = 6 ∨ k = 7 ∨ k = 8 := by omega
  have h0 := h 0
  have h1 := h 1
  have h2 := h 2
  have h3 := h 3
  have h4 := h 4
  have h5 := h 5
  have h6 := h 6
  have h7 := h 7
  unfold fnd
  rcases hk' with rfl | rfl | rfl | rfl | rfl | rfl | rfl | rfl | rfl <;> simp_all
theorem fnd_none (s : ByteArray) (h : ∀ j, j < 9 → eqn j s = false) : fnd s = -1 := by
  have h0 := h 0 (by omega)
  have h1 := h 1 (by omega)
  have h2 := h 2 (by omega)
  have h3 := h 3 (by omega)
  have h4 := h 4 (by omega)
  have h5 := h 5 (by omega)
  have h6 := h 6 (by omega)
  have h7 := h 7 (by omega)
  have h8 := h 8 (by omega)
  unfold fnd
  simp_all
theorem fnd_range (s : ByteArray) : -1 ≤ fnd s ∧ fnd s ≤ 8 := by
  unfold fnd
  repeat' split
  all_goals omega
theorem fnd_hit (s : ByteArray) (h : 0 ≤ fnd s) : eqn (fnd s).toNat s = true := by
  unfold fnd at h ⊢
  repeat' split
  all_goals simp_all
theorem ne_snoc {s : ByteArray} {k : Nat} (h : ∀ j, j < k → eqn j s = false) (he : eqn k s = false) : ∀ j, j < k + 1 → eqn j s = false := fun j hj => by
  rcases Nat.lt_succ_iff_lt_or_eq.1 hj with h1 | rfl
  · exact h j h1
  · exact he

set_option maxHeartbeats 400000 in
theorem index_any (s : ByteArray) (w : World) (hT : Tab w) : Calls Tryd.prog 39 #[.slice (some ⟨0, 0, none⟩) 9 9, .string s] w fun e w' => e = .returned (.int .i64 (fnd s)) ∧ w = w' := by
  have HT := Lib.hid hT
  clear hT
  go_enter Tryd.func39, Tryd.ntmps39
  go_wp2_with fail
  go_loop [8] (fun i => ∃ k : Nat, k ≤ 9 ∧ i = .int .i64 k ∧ Hid (∀ j, j < k → eqn j s = false)) (fun i => 9 - (intOf i).toNat)
  case atStart => exact ⟨0, by omega, rfl, fun j hj => absurd hj (by omega)⟩
  case round =>
    obtain ⟨k, hk, rfl, hne⟩ := hrel
    by_cases hlt : k < 9
    · have hc := HT.out.names k hlt
      cases he : eqn k s
      · have he' : (s.toList == (nm k).toList) = false := he
        have HN := Lib.hid (ne_snoc hne.out he)
        clear he
        generalize nm k = nk at *
        go_wp2_with fail
        go_round
        case rel => exact ⟨k + 1, by omega, by go_num, HN⟩
        case measure => simp [intOf]; omega
      · have he' : (s.toList == (nm k).toList) = true := he
        have HN := Lib.hid (fnd_at s k hlt hne.out he)
        clear he
        generalize nm k = nk at *
        go_wp2_with fail
        go_ret
        exact ⟨by rw [HN.out]; rfl, rfl⟩
    · obtain rfl : k = 9 := by omega
      have HN := Lib.hid (fnd_none s hne.out)
      go_wp2_with fail
      go_ret
      exact ⟨by rw [HN.out]; rfl, rfl⟩

theorem find_any (s : ByteArray) (w : World) (hT : Tab w) : Calls Tryd.prog 21 #[.string s] w fun e w' => e = .returned (.tuple #[.int .u8 (max (fnd s) 0), .bool (decide (0 ≤ fnd s))]) ∧ w = w' := by
  have HI := Lib.hid (index_any s w hT)
  obtain ⟨h1, h2⟩ := fnd_range s
  generalize fnd s = f at *
  by_cases h : 0 ≤ f
  all_goals
    go_enter Tryd.func21, Tryd.ntmps21
    go_wp2_with fail
    refine HI.out.mono ?_
    rintro e w' ⟨rfl, rfl⟩
    go_wp2_with fail
    go_ret2
    refine ⟨?_, rfl⟩
    simp <;> omega

set_option maxHeartbeats 1000000 in
theorem rname_any (x : Int) (w : World) (hx : 0 ≤ x) : Calls Tryd.prog 28 #[.int .u8 x] w fun e w' => e = .returned (.tuple #[.string (nmi x), .int .i64 (nme x)]) ∧ Below w.heap.size w w' := by
  by_cases h : 9 ≤ x
  · have e : nmi x = ⟨#[]⟩ := by rw [nmi, if_pos h]
    have e2 : nme x = 2 := by rw [nme, if_pos h]
    have h' : 8 < x := by omega
    rw [e, e2]
    clear e e2
    go_enter Tryd.func28, Tryd.ntmps28
    go_wp2_with fail
    go_ret2
    exact ⟨rfl, Below.refl _ _⟩
  · have e : nmi x = nm x.toNat := by rw [nmi, if_neg h]
    have e2 : nme x = 0 := by rw [nme, if_neg h]
    rw [e, e2]
    clear e e2
    have hx' : x = 0 ∨ x = 1 ∨ x = 2 ∨ x = 3 ∨ x = 4 ∨ x = 5 ∨ x = 6 ∨ x = 7 ∨ x = 8 := by omega
    clear h hx
    rcases hx' with rfl | rfl | rfl | rfl | rfl | rfl | rfl | rfl | rfl
    all_goals
      go_enter Tryd.func28, Tryd.ntmps28
      go_wp2_with fail
      go_quiet (fail)
      go_wp2_with fail
      go_ret2
      exact ⟨by rfl, below_drewN (((Below.refl _ _).alloc (Nat.le_refl _) _).alloc (by simp) _) _⟩

end Go.Proofs.YtkcgijkccpiljaaDoor
