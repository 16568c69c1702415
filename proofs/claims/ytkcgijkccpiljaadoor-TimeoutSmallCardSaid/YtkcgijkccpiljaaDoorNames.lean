/-
  The contract of the reference's Find, and the walk of the law TimeoutNames: it returns true at every input and writes nothing that was there.
-/
import Derived.Test.YtkcgijkccpiljaaDoorFind
namespace Go.Proofs.YtkcgijkccpiljaaDoor
open Go.RowKit
set_option linter.unusedVariables false

theorem beq_sym (a b : List UInt8) : (a == b) = (b == a) := by
  rw [Bool.eq_iff_iff]
  simp only [beq_iff_eq]
  exact eq_comm
theorem nmi_nat (k : Nat) (h : k < 9) : nmi (k : Int) = nm k := by
  unfold nmi
  rw [if_neg (by omega)]
  rfl

set_option maxHeartbeats 400000 in
theorem rfind_any (s : ByteArray) (w : World) : Calls Tryd.prog 38 #[.string s] w fun e w' => e = .returned (.tuple #[.int .u8 (max (fnd s) 0), .bool (decide (0 ≤ fnd s))]) ∧ Below w.heap.size w w' := by
  go_enter Tryd.func38, Tryd.ntmps38
  go_wp2_with fail
  go_loopw [4] (fun i wr => ∃ k : Nat, k ≤ 9 ∧ i = .int .u8 k ∧ Hid (∀ j, j < k → eqn j s = false) ∧ Below w.heap.size w wr) (fun i _ => 9 - (intOf i).toNat)
  case atStart => exact ⟨0, by omega, rfl, fun j hj => absurd hj (by omega), Below.refl _ _⟩
  case round =>
    obtain ⟨k, hk, rfl, hne, hb⟩ := hrel
    by_cases hlt : k < 9
    · have HC := Lib.hid (fun W => rname_any (k : Int) W (by omega))
      rw [nmi_nat k hlt] at HC
      cases he : eqn k s
      · have he' : ((nm k).toList == s.toList) = false := by rw [beq_sym]; exact he
        have HN := Lib.hid (ne_snoc hne.out he)
        clear he
        generalize nm k = nk at *
        go_wp2_with fail
        refine (HC.out _).mono ?_
        rintro e w1 ⟨rfl, hb1⟩
        go_wp2_with fail
        go_roundw
        case rel => exact ⟨k + 1, by omega, by go_num, HN, bthen hb hb1⟩
        case measure => simp [intOf]; omega
      · have he' : ((nm k).toList == s.toList) = true := by rw [beq_sym]; exact he
        have HN := Lib.hid (fnd_at s k hlt hne.out he)
        clear he
        generalize nm k = nk at *
        go_wp2_with fail
        refine (HC.out _).mono ?_
        rintro e w1 ⟨rfl, hb1⟩
        go_wp2_with fail
        go_ret2
        refine ⟨?_, bthen hb hb1⟩
        rw [HN.out]
        simp <;> omega
    · obtain rfl : k = 9 := by omega
      have HN := Lib.hid (fnd_none s hne.out)
      go_wp2_with fail
      go_ret2
      exact ⟨by rw [HN.out]; rfl, hb⟩

set_option maxHeartbeats 400000 in
theorem names_any (x : Int) (s : ByteArray) (w : World) (hT : Tab w) (hx : 0 ≤ x) : Calls Tryd.prog 19 #[.int .u8 x, .string s] w fun e w' => e = .returned (.bool true) ∧ Below w.heap.size w w' := by
  have HT := Lib.hid hT
  have H1 := Lib.hid (fun W hW => name_any x W hx hW)
  have H2 := Lib.hid (fun W => rname_any x W hx)
  have H3 := Lib.hid (fun W hW => find_any s W hW)
  have H4 := Lib.hid (fun W => rfind_any s W)
  clear hT
  generalize nmi x = n at *
  generalize nme x = m at *
  generalize max (fnd s) 0 = f at *
  generalize decide (0 ≤ fnd s) = b at *
  go_enter Tryd.func19, Tryd.ntmps19
  go_wp2_with fail
  refine (H1.out _ HT.out).mono ?_
  rintro e w1 ⟨rfl, rfl⟩
  go_wp2_with fail
  refine (H2.out _).mono ?_
  rintro e w1 ⟨rfl, hb1⟩
  go_wp2_with fail
  refine (H3.out _ (HT.out.below hb1)).mono ?_
  rintro e w2 ⟨rfl, rfl⟩
  go_wp2_with fail
  refine (H4.out _).mono ?_
  rintro e w3 ⟨rfl, hb3⟩
  go_wp2_with fail
  go_ret
  exact ⟨by simp, bthen hb1 hb3⟩

set_option maxHeartbeats 400000 in
theorem timeoutNames_walk (x : Int) (s : ByteArray) (w : World) (hT : Tab w) (hx : 0 ≤ x ∧ x ≤ 255) (hs : s.size ≤ maxLen) : Calls Tryd.prog 7 #[.int .u8 x, .string s] w fun e w' => e = .returned (.bool true) ∧ Below w.heap.size w w' := by
  have HT := Lib.hid hT
  clear hT hs
  obtain ⟨hx0, hx1⟩ := hx
  go_enter Tryd.func7, Tryd.ntmps7
  go_wp2_with fail
  refine (names_any _ _ _ HT.out hx0).mono ?_
  rintro e w1 ⟨rfl, hb1⟩
  go_wp2_with fail
  refine (awake_any _ (HT.out.below hb1)).mono ?_
  rintro e w2 ⟨rfl, hb2⟩
  go_wp2_with fail
  go_ret
  exact ⟨rfl, bthen hb1 hb2⟩

end Go.Proofs.YtkcgijkccpiljaaDoor
