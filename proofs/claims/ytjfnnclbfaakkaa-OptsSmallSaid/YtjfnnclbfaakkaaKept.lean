/-
  The contract of bafflekit's KeptBytes at lent bytes that are as they were. Conditions: both lie.
-/
import Derived.Test.YtjfnnclbfaakkaaLentB
import Derived.Deep.QuietTactic
import Derived.BigQuiet
namespace Go.Proofs.Ytjfnnclbfaakkaa
open Go.RowKit
set_option linter.unusedVariables false
set_option linter.unusedSimpArgs false

theorem lentC_lo {d : List Int} {i : Nat} (h : i < d.length) : (lentC d)[i]? = some (.int .u8 (d.getD i 0)) := by
  unfold lentC
  rw [List.getElem?_toArray, List.getElem?_map, List.getElem?_append_left h, getD_some h]
  rfl
theorem lentC_hi {d : List Int} {j : Nat} (h : j < 12) : (lentC d)[d.length + j]? = some (.int .u8 (mbS 1 (j : Nat))) := by
  unfold lentC
  rw [List.getElem?_toArray, List.getElem?_map, List.getElem?_append_right (by omega), Nat.add_sub_cancel_left]
  unfold mks
  rw [List.getElem?_map, List.getElem?_range h]
  rfl
set_option maxRecDepth 100000 in
set_option maxHeartbeats 4000000 in
theorem kept_any (d : List Int) (g : Nat) (A : Option Addr) (c : Nat) (w : World) (hg : w.heap[g]? = some (.cells (lentC d) 5 (0, 0))) (hd : By w A d) (hn : d.length ≤ 2 ^ 40) :
    Calls Try.prog 31 #[.slice (some ⟨g, 0, none⟩) d.length (d.length + 12), .slice A d.length c] w fun e w' => e = .returned (.bool true) ∧ Below w.heap.size w w' := by
  obtain ⟨n, hN⟩ : ∃ n, d.length = n := ⟨_, rfl⟩
  have HLO : Hid (∀ i, i < n → (lentC d)[i]? = some (.int .u8 (d.getD i 0))) := fun i hi => lentC_lo (by omega)
  have HHI : Hid (∀ j, j < 12 → (lentC d)[n + j]? = some (.int .u8 (mbS 1 (j : Nat)))) := fun j hj => by rw [← hN]; exact lentC_hi hj
  rw [hN] at hn ⊢
  have HN := Lib.hid hN
  have HG := Lib.hid hg
  have HD := Lib.hid hd
  clear hN hg hd
  have h1 : ((n : Int) != n) = false := by simp
  have hw1 : IntKind.i64.wrap ((n : Int) + 12) = (n : Int) + 12 := IntWalk.i64_in _ (by omega)
  have hn0 : (0 : Int) ≤ (n : Int) + 12 := by omega
  obtain ⟨L, hL⟩ : ∃ L, n + 12 = L := ⟨_, rfl⟩
  have hLi : (n : Int) + 12 = L := by omega
  rw [hLi] at hw1 hn0
  rw [hL]
  have HL := Lib.hid hL
  have hLL : L ≤ 2 ^ 41 := by omega
  clear hL hLi
  have hw1' : IntKind.i64.wrap ((n : Int) + 12) = (L : Int) := by have := HL.out; rw [IntWalk.i64_in _ (by omega)]; omega
  clear hw1
  go_enter Try.func31, Try.ntmps31
  go_wp2_with fail
  clear h1 hw1' hn0
  go_loopw [6] (fun v6 wr => ∃ i : Nat, i ≤ L ∧ v6 = .int .i64 i ∧ Below w.heap.size w wr) (fun v _ => L - (intOf v).toNat)
  case atStart => exact ⟨0, by omega, rfl, Below.refl _ _⟩
  case round =>
    obtain ⟨i, hi, rfl, hb⟩ := hrel
    by_cases hlt : i < L
    · have t1 : decide ((i : Int) < L) = true := by simp; omega
      have t1' : decide (i < L) = true := by simp; omega
      have HB := Lib.hid hb
      have hob := blk_below hb HG.out
      have hgl := blk_lt hob
      have hii : (i : Int) < L := by omega
      have hi0 : (0 : Int) ≤ i := by omega
      by_cases hin : i < n
      · have q0 := blk_cell hob i
        rw [HLO.out i hin] at q0
        obtain ⟨b2, o2, rfl, hb2, hbc⟩ := (HD.out.below hb).pos (by rw [HN.out]; omega)
        have q1 := hbc i _ (getD_some (by rw [HN.out]; exact hin))
        have t2 : decide ((i : Int) < n) = true := by simp; omega
        have t2' : decide (i < n) = true := by simp; omega
        have t3 : decide ((n : Int) ≤ i) = false := by simp; omega
        have t3' : decide (n ≤ i) = false := by simp; omega
        have hin' : (i : Int) < n := by omega
        have hlt2 := blk_lt hob
        clear hb hob hbc hlt
        go_upto_region 7 with fail
        go_quiet (fail)
        go_wp2_with fail
        exact ⟨⟨i + 1, by omega, by go_num, below_drewN HB.out nq⟩, by simp [intOf]; omega⟩
      · obtain ⟨j, rfl⟩ : ∃ j, i = n + j := ⟨i - n, by omega⟩
        have hj12 : j < 12 := by have := HL.out; omega
        have q0 := blk_cell hob (n + j)
        rw [HHI.out j hj12] at q0
        obtain ⟨i, hi'⟩ : ∃ i, n + j = i := ⟨_, rfl⟩
        rw [hi'] at q0 hi hii hi0 t1 t1' hin hlt ⊢
        have hwj : IntKind.i64.wrap ((i : Int) - n) = (j : Int) := by rw [IntWalk.i64_in _ (by omega)]; omega
        have t2 : decide ((i : Int) < n) = false := by simp; omega
        have t2' : decide (i < n) = false := by simp; omega
        have t3 : decide ((n : Int) ≤ i) = true := by simp; omega
        have t3' : decide (n ≤ i) = true := by simp; omega
        have hm : ∀ w, Calls Try.prog 49 #[.int .i64 1, .int .i64 (j : Int)] w fun e w' => e = .returned (.int .u8 (mbS 1 (j : Int))) ∧ w' = w := fun w => markByte_any 1 (j : Int) w (by decide) (by omega)
        have HLT := Lib.hid hlt
        clear hb hob hlt hin
        go_upto_region 7 with fail
        go_quiet ((go_at_call 49; exact Calls.quiet_of_same (hm _)))
        go_wp2_with fail
        exact ⟨⟨i + 1, HLT.out, by go_num, below_drewN HB.out nq⟩, by have := HLT.out; simp [intOf]; omega⟩
    · obtain rfl : i = L := by omega
      have t1 : decide ((i : Int) < i) = false := by simp
      have t1' : decide (i < i) = false := by simp
      go_wp2_with fail
      go_ret
      exact ⟨rfl, hb⟩
end Go.Proofs.Ytjfnnclbfaakkaa
