/-
  The walk of the law TimeoutNamed: it returns true at every input and writes nothing that was there.
-/
import Derived.Test.YtkcgijkccpiljaaDoorFind
namespace Go.Proofs.YtkcgijkccpiljaaDoor
open Go.RowKit
set_option linter.unusedVariables false

theorem fnd_nmi (x : Int) (h0 : 0 ≤ x) (h : x < 9) : fnd (nmi x) = x := by
  have hx' : x = 0 ∨ x = 1 ∨ x = 2 ∨ x = 3 ∨ x = 4 ∨ x = 5 ∨ x = 6 ∨ x = 7 ∨ x = 8 := by omega
  rcases hx' with rfl | rfl | rfl | rfl | rfl | rfl | rfl | rfl | rfl <;> decide +kernel
theorem fnd_empty : fnd ⟨#[]⟩ = -1 := by decide +kernel

set_option maxHeartbeats 1000000 in
theorem named_tail (x : Int) (s : ByteArray) (N : ByteArray) (E B : Int) (I : Bool) (w : World) (hT : Tab w) (hx0 : 0 ≤ x) (hx1 : x ≤ 255)
    (hN : Hid (nmi x = N)) (hE : Hid (nme x = E)) (hB : Hid (max (fnd N) 0 = B)) (hI : Hid (decide (0 ≤ fnd N) = I))
    (hc : (x < 9 ∧ E = 0 ∧ B = x ∧ I = true) ∨ (9 ≤ x ∧ E = 2 ∧ B = 0 ∧ I = false ∧ N = ⟨#[]⟩)) :
    Calls Tryd.prog 8 #[.int .u8 x, .string s] w fun e w' => e = .returned (.bool true) ∧ Below w.heap.size w w' := by
  have HT := Lib.hid hT
  have H1 := Lib.hid (fun W hW => name_any x W hx0 hW)
  rw [hN.out, hE.out] at H1
  have H2 := Lib.hid (fun W hW => find_any N W hW)
  rw [hB.out, hI.out] at H2
  clear hT hN hE hB hI
  have H3 := Lib.hid (fun W hW => find_any s W hW)
  obtain ⟨r1, r2⟩ := fnd_range s
  have H4 := Lib.hid (fun W hW => name_any (max (fnd s) 0) W (by omega) hW)
  have hit := fnd_hit s
  by_cases hf : 0 ≤ fnd s
  · have hit' := hit hf
    have e1 : max (fnd s) 0 = fnd s := by omega
    have e2 : decide (0 ≤ fnd s) = true := by simpa using hf
    rw [e1] at H3 H4
    rw [e2] at H3
    have e3 : nmi (fnd s) = nm (fnd s).toNat := by rw [nmi, if_neg (by omega)]
    have e4 : ((nm (fnd s).toNat).toList == s.toList) = true := by
      have : s.toList = (nm (fnd s).toNat).toList := by simpa [eqn] using hit'
      rw [this]
      simp
    rw [e3] at H4
    clear hit hit' e1 e2 e3
    generalize nm (fnd s).toNat = M at *
    generalize nme (fnd s) = K at *
    generalize fnd s = f at *
    have k9 : f < 9 := by omega
    rcases hc with ⟨c1, rfl, rfl, rfl⟩ | ⟨c1, rfl, rfl, rfl, rfl⟩
    · go_enter Tryd.func8, Tryd.ntmps8
      go_wp2_with fail
      refine (awake_any _ HT.out).mono ?_
      rintro e w1 ⟨rfl, hb1⟩
      have HT1 := Lib.hid (HT.out.below hb1)
      go_wp2_with fail
      refine (H1.out _ HT1.out).mono ?_
      rintro e w2 ⟨rfl, rfl⟩
      go_wp2_with fail
      refine (H2.out _ HT1.out).mono ?_
      rintro e w3 ⟨rfl, rfl⟩
      go_wp2_with fail
      refine (H3.out _ HT1.out).mono ?_
      rintro e w3 ⟨rfl, rfl⟩
      go_wp2_with fail
      refine (H4.out _ HT1.out).mono ?_
      rintro e w3 ⟨rfl, rfl⟩
      go_wp2_with fail
      go_ret
      exact ⟨by simp, hb1⟩
    · have c2 : ¬ x < 9 := by omega
      go_enter Tryd.func8, Tryd.ntmps8
      go_wp2_with fail
      refine (awake_any _ HT.out).mono ?_
      rintro e w1 ⟨rfl, hb1⟩
      have HT1 := Lib.hid (HT.out.below hb1)
      go_wp2_with fail
      refine (H1.out _ HT1.out).mono ?_
      rintro e w2 ⟨rfl, rfl⟩
      go_wp2_with fail
      refine (H2.out _ HT1.out).mono ?_
      rintro e w3 ⟨rfl, rfl⟩
      go_wp2_with fail
      refine (H3.out _ HT1.out).mono ?_
      rintro e w3 ⟨rfl, rfl⟩
      go_wp2_with fail
      refine (H4.out _ HT1.out).mono ?_
      rintro e w3 ⟨rfl, rfl⟩
      go_wp2_with fail
      go_ret
      exact ⟨by simp, hb1⟩
  · have e1 : max (fnd s) 0 = 0 := by omega
    have e2 : decide (0 ≤ fnd s) = false := by simpa using hf
    rw [e1] at H3 H4
    rw [e2] at H3
    clear hit e1 e2 hf r1 r2
    generalize nmi 0 = M at *
    generalize nme 0 = K at *
    rcases hc with ⟨c1, rfl, rfl, rfl⟩ | ⟨c1, rfl, rfl, rfl, rfl⟩
    · go_enter Tryd.func8, Tryd.ntmps8
      go_wp2_with fail
      refine (awake_any _ HT.out).mono ?_
      rintro e w1 ⟨rfl, hb1⟩
      have HT1 := Lib.hid (HT.out.below hb1)
      go_wp2_with fail
      refine (H1.out _ HT1.out).mono ?_
      rintro e w2 ⟨rfl, rfl⟩
      go_wp2_with fail
      refine (H2.out _ HT1.out).mono ?_
      rintro e w3 ⟨rfl, rfl⟩
      go_wp2_with fail
      refine (H3.out _ HT1.out).mono ?_
      rintro e w3 ⟨rfl, rfl⟩
      go_wp2_with fail
      refine (H4.out _ HT1.out).mono ?_
      rintro e w3 ⟨rfl, rfl⟩
      go_wp2_with fail
      go_ret
      exact ⟨by simp, hb1⟩
    · have c2 : ¬ x < 9 := by omega
      go_enter Tryd.func8, Tryd.ntmps8
      go_wp2_with fail
      refine (awake_any _ HT.out).mono ?_
      rintro e w1 ⟨rfl, hb1⟩
      have HT1 := Lib.hid (HT.out.below hb1)
      go_wp2_with fail
      refine (H1.out _ HT1.out).mono ?_
      rintro e w2 ⟨rfl, rfl⟩
      go_wp2_with fail
      refine (H2.out _ HT1.out).mono ?_
      rintro e w3 ⟨rfl, rfl⟩
      go_wp2_with fail
      refine (H3.out _ HT1.out).mono ?_
      rintro e w3 ⟨rfl, rfl⟩
      go_wp2_with fail
      refine (H4.out _ HT1.out).mono ?_
      rintro e w3 ⟨rfl, rfl⟩
      go_wp2_with fail
      go_ret
      exact ⟨by simp, hb1⟩

theorem timeoutNamed_walk (x : Int) (s : ByteArray) (w : World) (hT : Tab w) (hx : 0 ≤ x ∧ x ≤ 255) (hs : s.size ≤ maxLen) : Calls Tryd.prog 8 #[.int .u8 x, .string s] w fun e w' => e = .returned (.bool true) ∧ Below w.heap.size w w' := by
  refine named_tail x s (nmi x) (nme x) _ _ w hT hx.1 hx.2 rfl rfl rfl rfl ?_
  by_cases h : x < 9
  · refine .inl ⟨h, by rw [nme, if_neg (by omega)], ?_, ?_⟩
    · rw [fnd_nmi x hx.1 h]; omega
    · rw [fnd_nmi x hx.1 h]; simpa using hx.1
  · have e : nmi x = ⟨#[]⟩ := by rw [nmi, if_pos (by omega)]
    refine .inr ⟨by omega, by rw [nme, if_pos (by omega)], ?_, ?_, e⟩
    · rw [e, fnd_empty]; rfl
    · rw [e, fnd_empty]; rfl

end Go.Proofs.YtkcgijkccpiljaaDoor
