/-
  The walk of TimeoutBases.
-/
import Derived.Test.YtkcgijkccpiljaaDoorBases
namespace Go.Proofs.YtkcgijkccpiljaaDoor
open Go.RowKit
set_option linter.unusedVariables false
set_option linter.unusedSimpArgs false

theorem nine_of {cs : List Value} (h : All2 [some .i64, some .i64, some .i64, some .i64, some .i64, some .i64, some .i64, some .i64, some .i64] cs) : ∃ b : Nat → Int, cs = [.int .i64 (b 0), .int .i64 (b 1), .int .i64 (b 2), .int .i64 (b 3), .int .i64 (b 4), .int .i64 (b 5), .int .i64 (b 6), .int .i64 (b 7), .int .i64 (b 8)] ∧ ∀ i, B64 (b i) := by
  obtain ⟨n0, r0, rfl, w0, h0⟩ := all2_int h
  obtain ⟨n1, r1, rfl, w1, h1⟩ := all2_int h0
  obtain ⟨n2, r2, rfl, w2, h2⟩ := all2_int h1
  obtain ⟨n3, r3, rfl, w3, h3⟩ := all2_int h2
  obtain ⟨n4, r4, rfl, w4, h4⟩ := all2_int h3
  obtain ⟨n5, r5, rfl, w5, h5⟩ := all2_int h4
  obtain ⟨n6, r6, rfl, w6, h6⟩ := all2_int h5
  obtain ⟨n7, r7, rfl, w7, h7⟩ := all2_int h6
  obtain ⟨n8, r8, rfl, w8, h8⟩ := all2_int h7
  obtain rfl := all2_nil h8
  refine ⟨fun i => [n0, n1, n2, n3, n4, n5, n6, n7, n8].getD i 0, rfl, fun i => ?_⟩
  match i with
  | 0 => exact bounds_i64 w0
  | 1 => exact bounds_i64 w1
  | 2 => exact bounds_i64 w2
  | 3 => exact bounds_i64 w3
  | 4 => exact bounds_i64 w4
  | 5 => exact bounds_i64 w5
  | 6 => exact bounds_i64 w6
  | 7 => exact bounds_i64 w7
  | 8 => exact bounds_i64 w8
  | i + 9 => exact ⟨by simp, by simp⟩

theorem bases_walk (A : Array Value) (c s e l : Int) (w : World) (HT : Hid (Tab w)) (hA : Hid (A.size = 9)) (HB : Hid (∀ W, Calls Tryd.prog 22 #[.agg A, .int .u8 c, .agg #[.int .i64 s, .int .i64 e], .int .i64 l] W fun r w' => r = .returned (.bool true) ∧ Below W.heap.size W w')) :
    Calls Tryd.prog 9 #[.agg A, .int .u8 c, .agg #[.int .i64 s, .int .i64 e], .int .i64 l] w fun r w' => r = .returned (.bool true) ∧ Below w.heap.size w w' := by
  have IA2 : Hid ((Tryd.prog.info? 42).map (·.size) = some A.toList.length) := by rw [Array.length_toList, hA.out]; exact info42
  go_enter Tryd.func9, Tryd.ntmps9
  go_wp2_with (refine wpList_load_wide 42 (.tmp 4) rfl (by rfl) (w.heap.size) 0 rfl A _ Tryd.underlying42 rfl IA2.out ?_ ?_; · (repeat (first | exact range_new _ _ _ | refine World.rangeAt_alloc ?_ _)))
  refine (HB.out _).mono ?_
  rintro r w1 ⟨rfl, hb1⟩
  have hb01 : Below w.heap.size w w1 := bthen (((Below.refl _ w).alloc (Nat.le_refl _) _).alloc (by simp) _) hb1
  clear hb1
  go_wp2_with fail
  refine (awake_any _ (HT.out.below hb01)).mono ?_
  rintro r w2 ⟨rfl, hb2⟩
  go_wp2_with fail
  go_ret
  exact ⟨rfl, bthen hb01 hb2⟩
theorem timeoutBases_walk (b : Nat → Int) (c : Int) (s : Int × Int) (l : Int) (w : World) (hT : Tab w) (hb : ∀ i, B64 (b i)) (hc : 0 ≤ c ∧ c ≤ 255) (hs : B64 s.1 ∧ B64 s.2) (hl : B64 l) :
    Calls Tryd.prog 9 #[.agg #[.int .i64 (b 0), .int .i64 (b 1), .int .i64 (b 2), .int .i64 (b 3), .int .i64 (b 4), .int .i64 (b 5), .int .i64 (b 6), .int .i64 (b 7), .int .i64 (b 8)], .int .u8 c, .agg #[.int .i64 s.1, .int .i64 s.2], .int .i64 l] w fun r w' => r = .returned (.bool true) ∧ Below w.heap.size w w' :=
  bases_walk _ c s.1 s.2 l w hT (show _ = _ from rfl) (fun W => bases_any b c s.1 s.2 l W hc.1)
end Go.Proofs.YtkcgijkccpiljaaDoor
