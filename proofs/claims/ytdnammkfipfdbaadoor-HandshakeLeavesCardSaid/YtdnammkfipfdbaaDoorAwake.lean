/-
  The contracts of handshake.Name and of the laws' own 'awake' (the examples of the chapter): it returns true, and writes nothing that was there.
-/
import Derived.Test.YtdnammkfipfdbaaDoorBase
import Derived.Handy
namespace Go.Proofs.YtdnammkfipfdbaaDoor
open Go.RowKit

theorem Tab.drewN {w : World} (h : Tab w) (n : Nat) : Tab (w.drewN n) := h.below (below_drewN (Below.refl _ _) n)
theorem Tab.drew {w : World} (h : Tab w) : Tab w.drew := h.below (Below.refl _ _).drew
theorem Tab.alloc {w : World} (h : Tab w) (o : Obj) : Tab (w.alloc o) := h.below ((Below.refl _ _).alloc (Nat.le_refl _) o)

/-- The name of a state. -/
def nmi (x : Int) : ByteArray := if 8 < x then ⟨#[]⟩ else nm x.toNat

theorem name_any (x : Int) (w : World) (hx : 0 ≤ x) (hT : Tab w) : Calls Tryd.prog 19 #[.int .u8 x] w fun e w' => e = .returned (.string (nmi x)) ∧ w' = w := by
  by_cases h : 8 < x
  · have e : nmi x = ⟨#[]⟩ := by rw [nmi, if_pos h]
    rw [e]
    clear e
    go_enter Tryd.func19, Tryd.ntmps19
    go_wp2
    go_ret
    exact ⟨rfl, rfl⟩
  · have e : nmi x = nm x.toNat := by rw [nmi, if_neg h]
    rw [e]
    clear e
    have hc := hT.names x.toNat (by omega)
    go_enter Tryd.func19, Tryd.ntmps19
    go_wp2
    go_ret
    exact ⟨rfl, rfl⟩

set_option maxHeartbeats 1000000 in
theorem awake_any (w : World) (hT : Tab w) : Calls Tryd.prog 12 #[] w fun e w' => e = .returned (.bool true) ∧ Below w.heap.size w w' := by
  have e1 : stp 1 1 18 = 2 := by decide +kernel
  have e2 : stp 2 0 16 = 3 := by decide +kernel
  have e3 : stp 3 1 24 = 3 := by decide +kernel
  have e4 : stp 3 0 17 = 4 := by decide +kernel
  have e5 : stp 4 1 17 = 6 := by decide +kernel
  have e6 : stp 6 0 16 = 7 := by decide +kernel
  have e7 : stp 1 1 16 = 0 := by decide +kernel
  have e8 : stp 1 1 4 = 8 := by decide +kernel
  have e9 : stp 1 1 20 = 8 := by decide +kernel
  have e10 : stp 8 0 2 = 0 := by decide +kernel
  have c0 : cls 0 = 0 := by decide +kernel
  have c1 : cls 1 = 0 := by decide +kernel
  have c3 : cls 3 = 0 := by decide +kernel
  have c2 : cls 2 = 1 := by decide +kernel
  have n7 : nmi 7 = ⟨#[119, 97, 105, 116]⟩ := by decide +kernel
  go_enter Tryd.func12, Tryd.ntmps12
  go_wp2_with fail
  refine wp_loop_rounds 7 ?_
  iterate 7 (rw [rounds_succ]; go_wp2_with (first | (go_at_call 15; refine (step_quiet _ _ _ _ ?_ ?_ ?_).mono ?_; omega; omega; (repeat (first | exact hT | refine Tab.drewN ?_ _ | refine Tab.alloc ?_ _)); rintro e w' ⟨rfl, n, rfl⟩)))
  refine wp_loop_rounds 4 ?_
  iterate 4 (rw [rounds_succ]; go_wp2_with (first | (go_at_call 16; refine (class_any _ _).mono ?_; rintro e w' ⟨rfl, rfl⟩) | (go_at_call 18; refine (opens_any _ _).mono ?_; rintro e w' ⟨rfl, rfl⟩) | (go_at_call 19; refine (name_any _ _ ?_ ?_).mono ?_; omega; (repeat (first | exact hT | refine Tab.drewN ?_ _ | refine Tab.alloc ?_ _)); rintro e w' ⟨rfl, rfl⟩)))
  go_ret
  refine ⟨rfl, ?_⟩
  repeat' (first | exact Below.refl _ _ | refine below_drewN ?_ _ | refine Below.alloc ?_ (by simp <;> omega) _)

end Go.Proofs.YtdnammkfipfdbaaDoor
