/-
  The contracts of package window: less, After, Room, within, further, See, Believe, Fits: each returns what the plain function gives; nothing that was there is written. Conditions: the numbers lie in their types' ranges.
-/
import Derived.Test.YtchephpmkommfaaRows
import Derived.Test.YtchephpmkommfaaSlice
import Derived.WalkKit
import Derived.WalkSpells
import Derived.WalkLawsBesides
import Derived.Deep.QuietTactic
import Derived.BigQuiet
import Derived.Deep.RegionHeld3
import Derived.Deep.DrawnRows
import Derived.Lib.Hide
import Derived.Handy
namespace Go.Proofs.Ytchephpmkommfaa
open Go.RowKit
set_option linter.unusedVariables false

/-- A difference of two numbers, from 0 on. -/
def lss (a b : Int) : Int := (a - b) % 4294967296
theorem lss_range (a b : Int) : 0 ≤ lss a b ∧ lss a b ≤ 4294967295 := by unfold lss; omega
/-- One number is after another one. -/
def aft (a b : Int) : Bool := decide (0 < lss a b) && decide (lss a b < 2147483648)

theorem less_any (a b : Int) (w : World) (ha : 0 ≤ a ∧ a ≤ 4294967295) (hb : 0 ≤ b ∧ b ≤ 4294967295) : Calls Try.prog 19 #[.int .u32 a, .int .u32 b] w fun e w' => e = .returned (.int .i64 (lss a b)) ∧ w = w' := by
  obtain ⟨x, hx⟩ : ∃ x, (a - b) % 4294967296 = x := ⟨_, rfl⟩
  have hr : 0 ≤ x ∧ x ≤ 4294967295 := by omega
  unfold lss
  rw [hx]
  obtain ⟨h1, h2⟩ := hr
  go_enter Try.func19, Try.ntmps19
  go_wp2
  go_ret
  exact ⟨by simp [hx], rfl⟩

theorem after_any (a b : Int) (w : World) (ha : 0 ≤ a ∧ a ≤ 4294967295) (hb : 0 ≤ b ∧ b ≤ 4294967295) : Calls Try.prog 12 #[.int .u32 a, .int .u32 b] w fun e w' => e = .returned (.bool (aft a b)) ∧ w = w' := by
  have hr := lss_range a b
  have HL : Hid (∀ W, Calls Try.prog 19 #[.int .u32 a, .int .u32 b] W fun e w' => e = .returned (.int .i64 (lss a b)) ∧ W = w') := fun W => less_any a b W ha hb
  unfold aft
  generalize lss a b = x at *
  clear ha hb
  by_cases h1 : 0 < x
  · go_enter Try.func12, Try.ntmps12
    go_wp2_with (go_at_call 19; refine (HL.out _).mono ?_; rintro e w' ⟨rfl, rfl⟩)
    go_ret
    exact ⟨by simp [h1], rfl⟩
  · go_enter Try.func12, Try.ntmps12
    go_wp2_with (go_at_call 19; refine (HL.out _).mono ?_; rintro e w' ⟨rfl, rfl⟩)
    go_ret
    exact ⟨by simp <;> omega, rfl⟩

/-- What a packet says, to this package: its flags, numbers, window and length; the other cells are whatever they are. -/
structure Fx where
  c0 : Value
  c1 : Value
  c2 : Value
  c3 : Value
  c4 : Value
  c5 : Value
  flags : Int
  c7 : Value
  c8 : Value
  seq : Int
  ack : Int
  win : Int
  len : Int
  c13 : Value
  c14 : Value
  c15 : Value
  c16 : Value
  c17 : Value
  c18 : Value

def Fx.val (F : Fx) : Value := .agg #[F.c0, F.c1, F.c2, F.c3, F.c4, F.c5, .int .u8 F.flags, F.c7, F.c8, .int .u32 F.seq, .int .u32 F.ack, .int .i64 F.win, .int .i64 F.len, F.c13, F.c14, F.c15, F.c16, F.c17, F.c18]
structure Fx.Ok (F : Fx) : Prop where
  one : F.c0.oneCell' = true ∧ F.c1.oneCell' = true ∧ F.c2.oneCell' = true ∧ F.c3.oneCell' = true ∧ F.c4.oneCell' = true ∧ F.c5.oneCell' = true ∧ F.c7.oneCell' = true ∧ F.c8.oneCell' = true ∧ F.c13.oneCell' = true ∧ F.c14.oneCell' = true ∧ F.c15.oneCell' = true ∧ F.c16.oneCell' = true ∧ F.c17.oneCell' = true ∧ F.c18.oneCell' = true
  flags : 0 ≤ F.flags ∧ F.flags ≤ 255
  seq : 0 ≤ F.seq ∧ F.seq ≤ 4294967295
  ack : 0 ≤ F.ack ∧ F.ack ≤ 4294967295
  win : -9223372036854775808 ≤ F.win ∧ F.win ≤ 9223372036854775807
  len : -9223372036854775808 ≤ F.len ∧ F.len ≤ 9223372036854775807

/-- The room of a packet. -/
def room (flags len : Int) : Int :=
  (len + (if bits .and .u8 flags 2 != 0 then 1 else 0) + (if bits .and .u8 flags 1 != 0 then 1 else 0)) % 4294967296
theorem room_range (f l : Int) : 0 ≤ room f l ∧ room f l ≤ 4294967295 := by unfold room; omega

set_option maxHeartbeats 1000000 in
theorem room_core (c0 c1 c2 c3 c4 c5 c7 c8 c13 c14 c15 c16 c17 c18 : Value) (flags seq ack win len : Int) (w : World) :
    Calls Try.prog 18 #[.agg #[c0, c1, c2, c3, c4, c5, .int .u8 flags, c7, c8, .int .u32 seq, .int .u32 ack, .int .i64 win, .int .i64 len, c13, c14, c15, c16, c17, c18]] w fun e w' => e = .returned (.int .u32 (room flags len)) ∧ (w.alloc (.cells #[c0, c1, c2, c3, c4, c5, .int .u8 flags, c7, c8, .int .u32 seq, .int .u32 ack, .int .i64 win, .int .i64 len, c13, c14, c15, c16, c17, c18] 34)).alloc (.cells #[.int .u8 2, .int .u8 1] 5) = w' := by
  by_cases h2 : (bits .and .u8 flags 2 != 0) = true
  all_goals by_cases h1 : (bits .and .u8 flags 1 != 0) = true
  all_goals
    obtain ⟨r, hr⟩ : ∃ r, room flags len = r := ⟨_, rfl⟩
    have hr1 := hr
    unfold room at hr1
    simp only [h1, h2, if_true] at hr1
    rw [hr]
    try simp only [Bool.not_eq_true] at h1
    try simp only [Bool.not_eq_true] at h2
    have HR := Lib.hid hr1
    clear hr hr1
    go_enter Try.func18, Try.ntmps18
    go_wp2
    go_rounds 3
    go_ret
    refine ⟨?_, rfl⟩
    rw [← HR.out]
    simp <;> omega
theorem room_any (F : Fx) (w : World) : Calls Try.prog 18 #[F.val] w fun e w' => e = .returned (.int .u32 (room F.flags F.len)) ∧ Below w.heap.size w w' :=
  (room_core _ _ _ _ _ _ _ _ _ _ _ _ _ _ _ _ _ _ _ w).mono fun _ _ ⟨a, b⟩ => ⟨a, b ▸ by repeat' (first | exact Below.refl _ _ | refine Below.alloc ?_ (by simp <;> omega) _)⟩

/-- A side. -/
structure Sd where
  seen : Bool
  acked : Bool
  next : Int
  ack : Int
  size : Int
structure Sd.Ok (s : Sd) : Prop where
  next : 0 ≤ s.next ∧ s.next ≤ 4294967295
  ack : 0 ≤ s.ack ∧ s.ack ≤ 4294967295
  size : -9223372036854775808 ≤ s.size ∧ s.size ≤ 9223372036854775807
def Sd.cells (s : Sd) : List Value := [.bool s.seen, .bool s.acked, .int .u32 s.next, .int .u32 s.ack, .int .i64 s.size]

/-- A sequence number is the next one that a side waits for, or within its window. -/
def wthn (ack size seq : Int) : Bool := decide (lss seq ack < max 1 size)

set_option maxHeartbeats 1000000 in
theorem within_core (seen acked : Value) (next ack size seq : Int) (w : World) (ha : 0 ≤ ack ∧ ack ≤ 4294967295) (hs : 0 ≤ seq ∧ seq ≤ 4294967295) :
    Calls Try.prog 27 #[.agg #[seen, acked, .int .u32 next, .int .u32 ack, .int .i64 size], .int .u32 seq] w fun e w' => e = .returned (.bool (wthn ack size seq)) ∧ Below w.heap.size w w' := by
  have HL : Hid (∀ W, Calls Try.prog 19 #[.int .u32 seq, .int .u32 ack] W fun e w' => e = .returned (.int .i64 (lss seq ack)) ∧ w' = W) := fun W => (less_any seq ack W hs ha).mono fun _ _ ⟨a, b⟩ => ⟨a, b.symm⟩
  have hr := lss_range seq ack
  unfold wthn
  generalize lss seq ack = x at *
  obtain ⟨M, hM⟩ : ∃ M, (if 1 < size then size else (1 : Int)) = M := ⟨_, rfl⟩
  have hM2 : max 1 size = M := by rw [← hM]; split <;> omega
  rw [hM2]
  clear hM2 ha hs
  go_enter Try.func27, Try.ntmps27
  go_wp2_with fail
  go_quiet ((go_at_call 19; exact Calls.quiet_of_same (HL.out _)))
  go_wp2_with fail
  go_ret
  exact ⟨rfl, below_drewN ((Below.refl _ _).alloc (Nat.le_refl _) _) _⟩

/-- A RST is to be believed. -/
def bel (own other : Sd) (flags seq ack : Int) : Bool :=
  if other.acked then wthn other.ack other.size seq else if (bits .and .u8 flags 16 != 0) && other.seen then ack == other.next else own.seen && seq == own.next

set_option maxRecDepth 100000 in
set_option maxHeartbeats 2000000 in
theorem believe_0 (os oa ts ta : Bool) (on oak osz tn tak tsz : Int) (c0 c1 c2 c3 c4 c5 c7 c8 c13 c14 c15 c16 c17 c18 : Value) (flags seq ack win len : Int) (w : World) (ha : 0 ≤ tak ∧ tak ≤ 4294967295) (hs : 0 ≤ seq ∧ seq ≤ 4294967295) :
    Calls Try.prog 16 #[.agg #[.bool os, .bool oa, .int .u32 on, .int .u32 oak, .int .i64 osz, .bool ts, .bool ta, .int .u32 tn, .int .u32 tak, .int .i64 tsz], .int .u8 0, .agg #[c0, c1, c2, c3, c4, c5, .int .u8 flags, c7, c8, .int .u32 seq, .int .u32 ack, .int .i64 win, .int .i64 len, c13, c14, c15, c16, c17, c18]] w
      fun e w' => e = .returned (.bool (bel ⟨os, oa, on, oak, osz⟩ ⟨ts, ta, tn, tak, tsz⟩ flags seq ack)) ∧ Below w.heap.size w w' := by
  have HW : Hid (∀ W, Calls Try.prog 27 #[.agg #[.bool ts, .bool ta, .int .u32 tn, .int .u32 tak, .int .i64 tsz], .int .u32 seq] W fun e w' => e = .returned (.bool (wthn tak tsz seq)) ∧ Below W.heap.size W w') := fun W => within_core _ _ _ _ _ _ W ha hs
  clear ha hs
  unfold bel
  dsimp only
  generalize wthn tak tsz seq = wt at *
  obtain ⟨fb, hfb⟩ : ∃ b, (bits .and .u8 flags 16 != 0) = b := ⟨_, rfl⟩
  rw [hfb]
  go_enter Try.func16, Try.ntmps16
  go_wp2_with fail
  go_region
  all_goals
    cases ta
    · cases fb
      all_goals cases ts
      all_goals cases os
      all_goals
        go_wp2_with fail
        go_ret
        exact ⟨rfl, (by repeat' (first | exact Below.refl _ _ | refine below_drewN ?_ _ | refine Below.drew ?_ | refine Below.alloc ?_ (by simp <;> omega) _))⟩
    · go_wp2_with (go_at_call 27; refine (HW.out _).mono ?_; rintro e w' ⟨rfl, hbW⟩)
      go_ret
      exact ⟨rfl, bthen (by repeat' (first | exact Below.refl _ _ | refine below_drewN ?_ _ | refine Below.drew ?_ | refine Below.alloc ?_ (by simp <;> omega) _)) hbW⟩

set_option maxRecDepth 100000 in
set_option maxHeartbeats 2000000 in
theorem believe_1 (os oa ts ta : Bool) (on oak osz tn tak tsz : Int) (c0 c1 c2 c3 c4 c5 c7 c8 c13 c14 c15 c16 c17 c18 : Value) (flags seq ack win len : Int) (w : World) (ha : 0 ≤ tak ∧ tak ≤ 4294967295) (hs : 0 ≤ seq ∧ seq ≤ 4294967295) :
    Calls Try.prog 16 #[.agg #[.bool ts, .bool ta, .int .u32 tn, .int .u32 tak, .int .i64 tsz, .bool os, .bool oa, .int .u32 on, .int .u32 oak, .int .i64 osz], .int .u8 1, .agg #[c0, c1, c2, c3, c4, c5, .int .u8 flags, c7, c8, .int .u32 seq, .int .u32 ack, .int .i64 win, .int .i64 len, c13, c14, c15, c16, c17, c18]] w
      fun e w' => e = .returned (.bool (bel ⟨os, oa, on, oak, osz⟩ ⟨ts, ta, tn, tak, tsz⟩ flags seq ack)) ∧ Below w.heap.size w w' := by
  have HW : Hid (∀ W, Calls Try.prog 27 #[.agg #[.bool ts, .bool ta, .int .u32 tn, .int .u32 tak, .int .i64 tsz], .int .u32 seq] W fun e w' => e = .returned (.bool (wthn tak tsz seq)) ∧ Below W.heap.size W w') := fun W => within_core _ _ _ _ _ _ W ha hs
  clear ha hs
  unfold bel
  dsimp only
  generalize wthn tak tsz seq = wt at *
  obtain ⟨fb, hfb⟩ : ∃ b, (bits .and .u8 flags 16 != 0) = b := ⟨_, rfl⟩
  rw [hfb]
  go_enter Try.func16, Try.ntmps16
  go_wp2_with fail
  go_region
  all_goals
    cases ta
    · cases fb
      all_goals cases ts
      all_goals cases os
      all_goals
        go_wp2_with fail
        go_ret
        exact ⟨rfl, (by repeat' (first | exact Below.refl _ _ | refine below_drewN ?_ _ | refine Below.drew ?_ | refine Below.alloc ?_ (by simp <;> omega) _))⟩
    · go_wp2_with (go_at_call 27; refine (HW.out _).mono ?_; rintro e w' ⟨rfl, hbW⟩)
      go_ret
      exact ⟨rfl, bthen (by repeat' (first | exact Below.refl _ _ | refine below_drewN ?_ _ | refine Below.drew ?_ | refine Below.alloc ?_ (by simp <;> omega) _)) hbW⟩

theorem believe_out (t f : Value) (d : Int) (w : World) (h : 1 < d) (ht : ∃ cs, t = .agg cs) (hf : ∃ cs, f = .agg cs) : Calls Try.prog 16 #[t, .int .u8 d, f] w fun e w' => e = .returned (.bool false) ∧ Below w.heap.size w w' := by
  obtain ⟨cs, rfl⟩ := ht
  obtain ⟨fs, rfl⟩ := hf
  go_enter Try.func16, Try.ntmps16
  go_wp2_with fail
  go_ret
  exact ⟨rfl, by go_grown⟩

end Go.Proofs.Ytchephpmkommfaa
