/-
  The walk of HandshakeTwice: a packet that comes twice in a row is not allowed the second time, or changes nothing more.
-/
import Derived.Test.YtdnammkfipfdbaaDoorFlow
namespace Go.Proofs.YtdnammkfipfdbaaDoor
open Go.RowKit
set_option linter.unusedVariables false

/-- The plain law, over the table: states 0 to 8, both directions, the classes. -/
theorem tb_twice : ∀ s : Fin 9, ∀ c : Fin 6, ∀ d : Fin 2, tb s c d = 0 ∨ tb (tb s c d) c d = 0 ∨ tb (tb s c d) c d = tb s c d := by decide +kernel
theorem stp_twice (s d f : Int) (hs : 0 ≤ s) (hd : 0 ≤ d) (h : stp s d f ≠ 0) : stp (stp s d f) d f = 0 ∨ stp (stp s d f) d f = stp s d f := by
  have hr := stp_range s d f
  have hc := cls_range f
  by_cases ho : 8 < s ∨ 1 < d
  · exact absurd (by rw [stp, if_pos ho]) h
  · have e : stp s d f = tb s (cls f) d := by rw [stp, if_neg ho]
    have e2 : stp (stp s d f) d f = tb (stp s d f) (cls f) d := by rw [stp, if_neg (by omega)]
    rw [e] at h e2
    have := tb_twice ⟨s.toNat, by omega⟩ ⟨(cls f).toNat, by omega⟩ ⟨d.toNat, by omega⟩
    simp only [Int.toNat_of_nonneg hs, Int.toNat_of_nonneg hc.1, Int.toNat_of_nonneg hd] at this
    rw [e, e2]
    rcases this with h1 | h1
    · exact absurd h1 h
    · exact h1

theorem run_range (l : List Pk) : 0 ≤ (run l).1 ∧ (run l).1 ≤ 8 := by
  unfold run
  split
  · decide
  · split
    · exact fold_range _ _ (by decide)
    · decide

/-- From an argument's cells to its numbers. -/
theorem nums_of {w : World} {A : Option Addr} {css : List (List Value)} {cap : Nat} (h1 : css.length ≤ cap) (h2 : cap ≤ maxLen) (h3 : A = none → css = [] ∧ cap = 0) (hr : Rd w A 1 css) (ha : ∀ cs ∈ css, All2 [some .u16] cs) : ∃ zs : List Int, css.length = zs.length ∧ Nums w A zs := by
  have hex : ∀ css : List (List Value), (∀ cs ∈ css, All2 [some .u16] cs) → ∃ zs : List Int, css = zs.map one ∧ ∀ z ∈ zs, 0 ≤ z ∧ z ≤ 65535 := by
    intro css
    induction css with
    | nil => intro _; exact ⟨[], rfl, by simp⟩
    | cons c r ih =>
      intro h
      obtain ⟨zs, rfl, hz⟩ := ih fun cs hcs => h cs (by simp [hcs])
      obtain ⟨z, c1, rfl, wz, hc1⟩ := all2_int (h c (by simp))
      obtain rfl := all2_nil hc1
      refine ⟨z :: zs, rfl, fun y hy => ?_⟩
      rcases List.mem_cons.1 hy with rfl | hy
      · exact bounds_u16 wz
      · exact hz y hy
  obtain ⟨zs, rfl, hz⟩ := hex css ha
  have hm : maxLen = 9223372036854775807 := rfl
  exact ⟨zs, by simp, hz, by simp at h1; omega, hr⟩

set_option maxHeartbeats 1000000 in
theorem handshakeTwice_walk (A : Option Addr) (zs : List Int) (n c : Nat) (d f : Int) (w : World) (hT : Tab w) (hn : n = zs.length) (hc : n ≤ c) (h : Nums w A zs) (hd : 0 ≤ d ∧ d ≤ 255) (hf : 0 ≤ f ∧ f ≤ 255) :
    Calls Tryd.prog 4 #[.slice A n c, .int .u8 d, .int .u8 f] w fun e w' => e = .returned (.bool true) ∧ Below w.heap.size w w' := by
  subst hn
  have HT := Lib.hid hT
  have H := Lib.hid h
  clear hT h
  obtain ⟨hd0, hd1⟩ := hd
  obtain ⟨hf0, hf1⟩ := hf
  go_enter Tryd.func4, Tryd.ntmps4
  go_wp2_with fail
  refine (awake_any _ HT.out).mono ?_
  rintro e w1 ⟨rfl, hb1⟩
  go_wp2_with fail
  refine (flow_any A zs c w1 hc (H.out.below hb1)).mono ?_
  rintro e w2 hrow
  obtain ⟨g, cap, rfl, hcap, hseen, hb2⟩ := hrow.seens (flow_ok zs H.out.ok) (by have := flow_length zs; omega)
  have hb02 := bthen hb1 hb2
  have Hseen := Lib.hid hseen
  clear hrow hseen
  go_wp2_with fail
  refine (run_any _ (flow zs) cap w2 hcap (HT.out.below hb02) Hseen.out).mono ?_
  rintro e w3 ⟨rfl, hb3⟩
  have hb03 := bthen hb02 hb3
  have hr := run_range (flow zs)
  generalize run (flow zs) = st at *
  obtain ⟨s, m⟩ := st
  simp only at hr
  go_wp2_with fail
  refine (step_any s d f _ hr.1 hd0 (HT.out.below hb03)).mono ?_
  rintro e w4 ⟨rfl, hb4⟩
  have hb04 := bthen hb03 hb4
  have hq := stp_range s d f
  have ht := stp_twice s d f hr.1 hd0
  generalize stp s d f = q at *
  by_cases hq0 : q = 0
  · subst hq0
    clear ht
    go_wp2_with fail
    go_ret
    exact ⟨rfl, hb04⟩
  · have hq1 : (q != 0) = true := by simpa using hq0
    have ht := Lib.hid (ht hq0)
    go_wp2_with fail
    refine (step_any q d f _ hq.1 hd0 (HT.out.below hb04)).mono ?_
    rintro e w5 ⟨rfl, hb5⟩
    have hb05 := bthen hb04 hb5
    rcases ht.out with ht | ht
    · rw [ht]
      go_wp2_with fail
      go_ret
      exact ⟨rfl, hb05⟩
    · rw [ht]
      go_wp2_with fail
      go_ret
      exact ⟨by simp, hb05⟩

end Go.Proofs.YtdnammkfipfdbaaDoor
