/-
  The contracts of the functions of package handshake (Class, Opens, Step, Completed): each call returns what the plain function gives; no conditions but the ranges of the arguments and, for Step, that the table lies as the program's text lays it.
-/
import Derived.Test.YtdnammkfipfdbaaDoorRows
import Derived.WalkKit
import Derived.WalkSpells
import Derived.WalkLawsBesides
import Derived.Deep.QuietTactic
import Derived.BigQuiet
import Derived.Lib.Hide
import Derived.Handy
import Derived.Test.YtdnammkfipfdbaaDoorSlice
namespace Go.Proofs.YtdnammkfipfdbaaDoor
open Go.RowKit

/-- The class of flags, as the walk spells it. -/
def cls (x : Int) : Int :=
  if bits .and .u8 x 4 != 0 then 5 else if bits .and .u8 x 19 == 2 then 1 else if bits .and .u8 x 19 == 18 then 2 else if bits .and .u8 x 19 == 16 then 3 else if bits .and .u8 x 19 == 17 then 4 else 0

set_option maxHeartbeats 400000 in
theorem class_any (x : Int) (w : World) : Calls Tryd.prog 16 #[.int .u8 x] w fun e w' => e = .returned (.int .u8 (cls x)) ∧ w = w' := by
  go_enter Tryd.func16, Tryd.ntmps16
  go_wp2
  all_goals (go_ret; exact ⟨by simp_all [cls], rfl⟩)

/-- The table of steps, flat. -/
def tab : List Int := [0, 0, 0, 0, 0, 0, 0, 0, 0, 0, 0, 0, 0, 0, 1, 0, 0, 2, 0, 0, 0, 0, 8, 8, 0, 0, 2, 0, 0, 2, 3, 0, 4, 0, 8, 8, 0, 0, 0, 0, 0, 3, 3, 3, 4, 5, 8, 8, 0, 0, 0, 0, 0, 0, 4, 4, 4, 6, 8, 8, 0, 0, 0, 0, 0, 0, 5, 5, 6, 5, 8, 8, 0, 0, 0, 0, 0, 0, 7, 7, 6, 6, 8, 8, 0, 0, 0, 0, 0, 0, 7, 7, 7, 7, 8, 8, 0, 0, 0, 0, 0, 0, 0, 0, 0, 0, 8, 8]

theorem cls_range (x : Int) : 0 ≤ cls x ∧ cls x ≤ 5 := by
  unfold cls
  repeat' split
  all_goals decide

theorem opens_any (x : Int) (w : World) : Calls Tryd.prog 18 #[.int .u8 x] w fun e w' => e = .returned (.bool (cls x == 1)) ∧ w = w' := by
  go_enter Tryd.func18, Tryd.ntmps18
  go_wp2_with (go_at_call 16; refine (class_any _ _).mono ?_; rintro e w' ⟨rfl, rfl⟩)
  go_ret
  exact ⟨rfl, rfl⟩

theorem completed_any (x : Int) (w : World) : Calls Tryd.prog 17 #[.int .u8 x] w fun e w' => e = .returned (.bool (decide (3 ≤ x) && decide (x ≤ 7))) ∧ w = w' := by
  by_cases h1 : 3 ≤ x
  all_goals by_cases h2 : x ≤ 7
  all_goals (go_enter Tryd.func17, Tryd.ntmps17; go_wp2; go_ret; exact ⟨by simp_all, rfl⟩)

/-- An entry of the table of steps. -/
def tb (s c d : Int) : Int := tab.getD (s.toNat * 12 + c.toNat * 2 + d.toNat) 0
/-- The state after a packet; 0 if it is not allowed. -/
def stp (s d f : Int) : Int := if 8 < s ∨ 1 < d then 0 else tb s (cls f) d

/-- What lies in the package's variables. -/
def nam : List ByteArray := [⟨#[]⟩, ⟨#[115, 101, 110, 116]⟩, ⟨#[98, 111, 116, 104]⟩, ⟨#[111, 112, 101, 110]⟩, ⟨#[102, 105, 110, 45, 102, 105, 114, 115, 116]⟩, ⟨#[102, 105, 110, 45, 111, 116, 104, 101, 114]⟩, ⟨#[102, 105, 110, 45, 98, 111, 116, 104]⟩, ⟨#[119, 97, 105, 116]⟩, ⟨#[114, 101, 115, 101, 116]⟩]
def nm (i : Nat) : ByteArray := nam.getD i ByteArray.empty
structure Tab (w : World) : Prop where
  size : 2 ≤ w.heap.size
  table : ∀ i, i < 108 → w.cell? ⟨0, i, none⟩ = some (.int .u8 (tab.getD i 0))
  names : ∀ i, i < 9 → w.cell? ⟨1, i, none⟩ = some (.string (nm i))

theorem Tab.below {w w' : World} (h : Tab w) (hb : Below w.heap.size w w') : Tab w' := by
  have h2 := h.size
  exact ⟨Nat.le_trans h2 hb.size, fun i hi => (hb.cell (p := ⟨0, i, none⟩) (show 0 < w.heap.size by omega)).trans (h.table i hi), fun i hi => (hb.cell (p := ⟨1, i, none⟩) (show 1 < w.heap.size by omega)).trans (h.names i hi)⟩

theorem Tab.at_ {w : World} (h : Tab w) (s c d : Int) (h0 : 0 ≤ s ∧ s ≤ 8) (h1 : 0 ≤ c ∧ c ≤ 5) (h2 : 0 ≤ d ∧ d ≤ 1) : w.cell? ⟨0, s.toNat * 12 + c.toNat * 2 + d.toNat, none⟩ = some (.int .u8 (tb s c d)) :=
  h.table _ (by omega)

theorem class_is (x c : Int) (w : World) (h : cls x = c) : Calls Tryd.prog 16 #[.int .u8 x] w fun e w' => e = .returned (.int .u8 c) ∧ w' = w :=
  (class_any x w).mono fun _ _ ⟨a, b⟩ => ⟨h ▸ a, b.symm⟩

set_option maxHeartbeats 400000 in
theorem step_in (s d c f : Int) (w : World) (hs : 0 ≤ s) (hs8 : s ≤ 8) (hd : 0 ≤ d) (hd1 : d ≤ 1) (hc : Hid (cls f = c)) (hc0 : 0 ≤ c) (hc5 : c ≤ 5) (hT : Tab w) :
    Calls Tryd.prog 15 #[.int .u8 s, .int .u8 d, .int .u8 f] w fun e w' => e = .returned (.tuple #[.int .u8 (tb s c d), .bool (tb s c d != 0)]) ∧ ∃ n, w' = w.drewN n := by
  have h1 : ¬ 8 < s := by omega
  have h2 : ¬ 1 < d := by omega
  have hcell := hT.at_ s c d ⟨hs, hs8⟩ ⟨hc0, hc5⟩ ⟨hd, hd1⟩
  go_enter Tryd.func15, Tryd.ntmps15
  go_wp2_with fail
  go_quiet ((go_at_call 16; exact Calls.quiet_of_same (class_is _ _ _ hc.out)))
  go_wp2
  go_ret2
  exact ⟨rfl, _, rfl⟩

theorem step_out (s d f : Int) (w : World) (h : 8 < s ∨ 1 < d) :
    Calls Tryd.prog 15 #[.int .u8 s, .int .u8 d, .int .u8 f] w fun e w' => e = .returned (.tuple #[.int .u8 0, .bool false]) ∧ w' = w := by
  by_cases h1 : 8 < s
  · go_enter Tryd.func15, Tryd.ntmps15
    go_wp2_with fail
    go_ret2
    exact ⟨rfl, rfl⟩
  · have h2 : 1 < d := by omega
    go_enter Tryd.func15, Tryd.ntmps15
    go_wp2_with fail
    go_ret2
    exact ⟨rfl, rfl⟩

theorem step_quiet (s d f : Int) (w : World) (hs : 0 ≤ s) (hd : 0 ≤ d) (hT : Tab w) :
    Calls Tryd.prog 15 #[.int .u8 s, .int .u8 d, .int .u8 f] w fun e w' => e = .returned (.tuple #[.int .u8 (stp s d f), .bool (stp s d f != 0)]) ∧ ∃ n, w' = w.drewN n := by
  by_cases h : 8 < s ∨ 1 < d
  · have e : stp s d f = 0 := by rw [stp, if_pos h]
    rw [e]
    exact (step_out s d f w h).mono fun _ _ ⟨a, b⟩ => ⟨a, 0, b⟩
  · have e : stp s d f = tb s (cls f) d := by rw [stp, if_neg h]
    rw [e]
    have hr := cls_range f
    exact step_in s d (cls f) f w hs (by omega) hd (by omega) rfl hr.1 hr.2 hT

/-- The contract that callers use: the state is some number from 0 to 8. -/
theorem stp_range (s d f : Int) : 0 ≤ stp s d f ∧ stp s d f ≤ 8 := by
  have hall : ∀ i, 0 ≤ tab.getD i 0 ∧ tab.getD i 0 ≤ 8 := by
    intro i
    by_cases h : i < 108
    · have : ∀ j : Fin 108, 0 ≤ tab.getD j.1 0 ∧ tab.getD j.1 0 ≤ 8 := by decide +kernel
      exact this ⟨i, h⟩
    · have : tab.getD i 0 = 0 := by
        rw [List.getD_eq_getElem?_getD, List.getElem?_eq_none (by simp [tab]; omega)]; rfl
      rw [this]; decide
  unfold stp tb
  split
  · decide
  · exact hall _

theorem step_any (s d f : Int) (w : World) (hs : 0 ≤ s) (hd : 0 ≤ d) (hT : Tab w) :
    Calls Tryd.prog 15 #[.int .u8 s, .int .u8 d, .int .u8 f] w fun e w' => e = .returned (.tuple #[.int .u8 (stp s d f), .bool (stp s d f != 0)]) ∧ Below w.heap.size w w' :=
  (step_quiet s d f w hs hd hT).mono fun _ _ ⟨a, n, b⟩ => ⟨a, b ▸ below_drewN (Below.refl _ _) n⟩

end Go.Proofs.YtdnammkfipfdbaaDoor
