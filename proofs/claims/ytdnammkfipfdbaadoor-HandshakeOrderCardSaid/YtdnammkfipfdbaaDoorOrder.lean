/-
  The walk of HandshakeOrder: nobody gets to a completed handshake without a SYN, a SYN and ACK, and an ACK, in this order.
-/
import Derived.Test.YtdnammkfipfdbaaDoorTwice
namespace Go.Proofs.YtdnammkfipfdbaaDoor
open Go.RowKit
set_option linter.unusedVariables false

/-- What an allowed packet does. -/
def Allowed (s c d q : Int) : Prop :=
  (s = 1 ∧ c = 2 ∧ d = 1 ∧ q = 2) ∨ (s = 1 ∧ c = 1 ∧ d = 0 ∧ q = 1) ∨ (s = 1 ∧ c = 5 ∧ q = 8) ∨ (s = 2 ∧ c = 1 ∧ d = 0 ∧ q = 2) ∨ (s = 2 ∧ c = 2 ∧ d = 1 ∧ q = 2) ∨ (s = 2 ∧ c = 3 ∧ d = 0 ∧ q = 3) ∨
  (s = 2 ∧ c = 4 ∧ d = 0 ∧ q = 4) ∨ (s = 2 ∧ c = 5 ∧ q = 8) ∨ (3 ≤ s ∧ s ≤ 7 ∧ c = 5 ∧ q = 8) ∨ (3 ≤ s ∧ s ≤ 7 ∧ c ≠ 5 ∧ s ≠ 4 ∧ s ≤ q ∧ q ≤ 7) ∨ (s = 4 ∧ c ≠ 5 ∧ 4 ≤ q ∧ q ≤ 7 ∧ q ≠ 5) ∨ (s = 8 ∧ c = 5 ∧ q = 8)
instance (s c d q : Int) : Decidable (Allowed s c d q) := by unfold Allowed; infer_instance
theorem allowed_fin : ∀ s : Fin 9, ∀ c : Fin 6, ∀ d : Fin 2, 1 ≤ s.1 → tb s c d ≠ 0 → Allowed s c d (tb s c d) := by decide +kernel
theorem allowed (s d f : Int) (hs : 1 ≤ s ∧ s ≤ 8) (hd : 0 ≤ d) (h : stp s d f ≠ 0) : Allowed s (cls f) d (stp s d f) := by
  have hc := cls_range f
  by_cases ho : 8 < s ∨ 1 < d
  · exact absurd (by rw [stp, if_pos ho]) h
  · have e : stp s d f = tb s (cls f) d := by rw [stp, if_neg ho]
    rw [e] at h ⊢
    have := allowed_fin ⟨s.toNat, by omega⟩ ⟨(cls f).toNat, by omega⟩ ⟨d.toNat, by omega⟩ (show 1 ≤ s.toNat by omega)
    simp only [Int.toNat_of_nonneg (show (0 : Int) ≤ s by omega), Int.toNat_of_nonneg hc.1, Int.toNat_of_nonneg hd] at this
    exact this h

/-- What the law's own steps are to the states. -/
def Inv (s p : Int) : Prop := (s = 1 ∧ p = 1) ∨ (s = 2 ∧ p = 2) ∨ (3 ≤ s ∧ s ≤ 7 ∧ p = 3) ∨ (s = 8 ∧ 1 ≤ p ∧ p ≤ 3)

set_option maxRecDepth 100000 in
set_option maxHeartbeats 2000000 in
theorem handshakeOrder_walk (A : Option Addr) (zs : List Int) (n c : Nat) (w : World) (hT : Tab w) (hn : n = zs.length) (hc : n ≤ c) (h : Nums w A zs) :
    Calls Tryd.prog 5 #[.slice A n c] w fun e w' => e = .returned (.bool true) ∧ Below w.heap.size w w' := by
  subst hn
  have HT := Lib.hid hT
  have H := Lib.hid h
  clear hT h
  obtain ⟨r, hr⟩ := flow_cons zs
  have hrl : r.length + 1 ≤ 101 := by have := flow_length zs; rw [hr] at this; simpa using this.2
  have HR : Hid (run (flow zs) = r.foldl go (1, 1)) := by
    show _ = _
    rw [hr]
    unfold run
    dsimp only
    rw [if_pos ⟨rfl, by decide +kernel⟩]
  have Hr := Lib.hid hr
  have Hlen : Hid ((flow zs).length = r.length + 1) := by show _ = _; rw [hr]; rfl
  clear hr
  go_enter Tryd.func5, Tryd.ntmps5
  go_wp2_with fail
  refine (awake_any _ HT.out).mono ?_
  rintro e w1 ⟨rfl, hb1⟩
  go_wp2_with fail
  refine (flow_any A zs c w1 hc (H.out.below hb1)).mono ?_
  rintro e w2 hrow
  obtain ⟨g, cap, rfl, hcap, hseen, hb2⟩ := hrow.seens (flow_ok zs H.out.ok) (by have := flow_length zs; omega)
  have hb02 := bthen hb1 hb2
  rw [Hlen.out] at hcap ⊢
  rw [Hr.out] at hseen
  have Hseen := Lib.hid hseen
  clear hrow hseen
  by_cases hc1 : cap = 1
  · have hr0 : r = [] := List.eq_nil_of_length_eq_zero (by omega)
    subst hr0 hc1
    go_wp2_with fail
    refine wp_loop_rounds 1 ?_
    rw [rounds_succ]
    go_wp2_with fail
    refine (flow_any A zs c w2 hc (H.out.below hb02)).mono ?_
    rintro e w5 hrow5
    obtain ⟨g5, cap5, rfl, hcap5, hseen5, hb5⟩ := hrow5.seens (flow_ok zs H.out.ok) (by have := flow_length zs; omega)
    have hb05 := bthen hb02 hb5
    have Hseen5 := Lib.hid hseen5
    clear hrow5 hseen5
    go_wp2_with fail
    refine (run_any _ (flow zs) cap5 w5 hcap5 (HT.out.below hb05) Hseen5.out).mono ?_
    rintro e w6 ⟨rfl, hb6⟩
    rw [HR.out]
    go_wp2_with fail
    go_ret
    exact ⟨by simp, bthen hb05 hb6⟩
  · obtain ⟨b, off, hA, hlt, hcells⟩ := Hseen.out.mem (by simp)
    have HC := Lib.hid hcells
    simp only [Option.some.injEq, Addr.mk.injEq, and_true] at hA
    obtain ⟨rfl, rfl⟩ := hA
    clear hcells
    go_wp2_with fail
    go_loopw [3, 4, 18] (fun st sp i wr => ∃ (k : Nat) (p : Int), k ≤ r.length ∧ i = .int .i64 k ∧ st = .int .u8 ((r.take k).foldl go (1, 1)).1 ∧ sp = .int .i64 p ∧ Inv ((r.take k).foldl go (1, 1)).1 p ∧ Below w2.heap.size w2 wr) (fun _ _ i _ => r.length - (intOf i).toNat)
    case atStart => exact ⟨0, 1, Nat.zero_le _, rfl, rfl, rfl, .inl ⟨rfl, rfl⟩, Below.refl _ _⟩
    case round =>
      obtain ⟨k, p, hk, rfl, rfl, rfl, hinv, hb⟩ := hrel
      by_cases hkl : k < r.length
      · obtain ⟨⟨d, f⟩, hrk⟩ : ∃ q, r[k]? = some q := ⟨_, List.getElem?_eq_getElem hkl⟩
        have hs := fold_snoc r (1, 1) k _ hrk
        have hpk := Hseen.out.ok (d, f) (List.mem_cons_of_mem _ (List.mem_of_getElem? hrk))
        have hcc := HC.out (k + 1) (d, f) (by simpa using hrk)
        rw [show 0 + (k + 1) * 2 = 2 + k * 2 by omega] at hcc
        have hat := run_at r k
        generalize (r.take k).foldl go (1, 1) = st at *
        obtain ⟨s, m⟩ := st
        unfold PkOk at hpk
        simp only at hcc hpk hat hinv
        have c1 := (hb.cell (p := ⟨g, 2 + k * 2, none⟩) hlt).trans hcc.1
        have c2 := (hb.cell (p := ⟨g, 2 + k * 2 + 1, none⟩) hlt).trans hcc.2
        have HS := Lib.hid hs
        clear hs hrk hcc
        obtain ⟨hp1, hp2, hp3, hp4⟩ := hpk
        have hs18 : 1 ≤ s ∧ s ≤ 8 := by unfold Inv at hinv; omega
        obtain ⟨hsa, hsb⟩ := hs18
        clear hat
        have hT1 := Lib.hid (((HT.out.below hb02).below hb).alloc (Obj.cells #[.int .u8 d, .int .u8 f] 33))
        have hblt : g < wr.heap.size := Nat.lt_of_lt_of_le hlt hb.size
        have hkd : decide (k < r.length) = true := by simpa using hkl
        have hal := allowed s d f ⟨hsa, hsb⟩ hp1
        have hqr := stp_range s d f
        have hgy := @go_yes s m d f
        have hgn := @go_no s m d f
        have HG1 := Lib.hid hgy
        have HG2 := Lib.hid hgn
        have HA := Lib.hid hal
        have HI := Lib.hid hinv
        clear hgy hgn hal hinv
        go_wp2_with fail
        refine (step_quiet s d f _ (by omega) hp1 hT1.out).mono ?_
        rintro e w3 ⟨rfl, nq, rfl⟩
        have hb3 : Hid (∀ o, Below w2.heap.size w2 ((wr.alloc o).drewN nq)) := fun o => below_drewN (hb.alloc hb.size o) nq
        generalize hcf : cls f = cl at *
        have HF := Lib.hid hcf
        clear hcf
        generalize stp s d f = q at *
        obtain ⟨hq0, hq8⟩ := hqr
        by_cases hq : q = 0
        · subst hq
          go_wp2_with fail
          go_roundw
          case rel => exact ⟨k + 1, p, by omega, by go_num, by rw [HS.out, HG2.out (by decide)], rfl, by rw [HS.out, HG2.out (by decide)]; exact HI.out, hb3.out _⟩
          case measure => simp [intOf]; omega
        · have hqb : (q != 0) = true := by simpa using hq
          have hA := HA.out hq
          have hI := HI.out
          unfold Allowed at hA
          unfold Inv at hI
          clear HA HI
          rcases hA with hA | hA | hA | hA | hA | hA | hA | hA | hA | hA | hA | hA
          · obtain ⟨rfl, rfl, rfl, rfl⟩ := hA
            obtain rfl : p = 1 := by omega
            clear hI
            go_wp2_with (first | (go_at_call 16; refine (class_is _ _ _ HF.out).mono ?_; rintro e w' ⟨rfl, rfl⟩) | (go_at_call 17; refine (completed_any _ _).mono ?_; rintro e w' ⟨rfl, rfl⟩))
            all_goals
              go_roundw
              case rel => exact ⟨k + 1, 2, by omega, by go_num, by rw [HS.out, HG1.out (by assumption)], rfl, by rw [HS.out, HG1.out (by assumption)]; unfold Inv; dsimp only; omega, hb3.out _⟩
              case measure => simp [intOf]; omega
          · obtain ⟨rfl, rfl, rfl, rfl⟩ := hA
            obtain rfl : p = 1 := by omega
            clear hI
            go_wp2_with (first | (go_at_call 16; refine (class_is _ _ _ HF.out).mono ?_; rintro e w' ⟨rfl, rfl⟩) | (go_at_call 17; refine (completed_any _ _).mono ?_; rintro e w' ⟨rfl, rfl⟩))
            all_goals
              go_roundw
              case rel => exact ⟨k + 1, 1, by omega, by go_num, by rw [HS.out, HG1.out (by assumption)], rfl, by rw [HS.out, HG1.out (by assumption)]; unfold Inv; dsimp only; omega, hb3.out _⟩
              case measure => simp [intOf]; omega
          · obtain ⟨rfl, rfl, rfl⟩ := hA
            obtain rfl : p = 1 := by omega
            clear hI
            go_wp2_with (first | (go_at_call 16; refine (class_is _ _ _ HF.out).mono ?_; rintro e w' ⟨rfl, rfl⟩) | (go_at_call 17; refine (completed_any _ _).mono ?_; rintro e w' ⟨rfl, rfl⟩))
            all_goals
              go_roundw
              case rel => exact ⟨k + 1, 1, by omega, by go_num, by rw [HS.out, HG1.out (by assumption)], rfl, by rw [HS.out, HG1.out (by assumption)]; unfold Inv; dsimp only; omega, hb3.out _⟩
              case measure => simp [intOf]; omega
          · obtain ⟨rfl, rfl, rfl, rfl⟩ := hA
            obtain rfl : p = 2 := by omega
            clear hI
            go_wp2_with (first | (go_at_call 16; refine (class_is _ _ _ HF.out).mono ?_; rintro e w' ⟨rfl, rfl⟩) | (go_at_call 17; refine (completed_any _ _).mono ?_; rintro e w' ⟨rfl, rfl⟩))
            all_goals
              go_roundw
              case rel => exact ⟨k + 1, 2, by omega, by go_num, by rw [HS.out, HG1.out (by assumption)], rfl, by rw [HS.out, HG1.out (by assumption)]; unfold Inv; dsimp only; omega, hb3.out _⟩
              case measure => simp [intOf]; omega
          · obtain ⟨rfl, rfl, rfl, rfl⟩ := hA
            obtain rfl : p = 2 := by omega
            clear hI
            go_wp2_with (first | (go_at_call 16; refine (class_is _ _ _ HF.out).mono ?_; rintro e w' ⟨rfl, rfl⟩) | (go_at_call 17; refine (completed_any _ _).mono ?_; rintro e w' ⟨rfl, rfl⟩))
            all_goals
              go_roundw
              case rel => exact ⟨k + 1, 2, by omega, by go_num, by rw [HS.out, HG1.out (by assumption)], rfl, by rw [HS.out, HG1.out (by assumption)]; unfold Inv; dsimp only; omega, hb3.out _⟩
              case measure => simp [intOf]; omega
          · obtain ⟨rfl, rfl, rfl, rfl⟩ := hA
            obtain rfl : p = 2 := by omega
            clear hI
            go_wp2_with (first | (go_at_call 16; refine (class_is _ _ _ HF.out).mono ?_; rintro e w' ⟨rfl, rfl⟩) | (go_at_call 17; refine (completed_any _ _).mono ?_; rintro e w' ⟨rfl, rfl⟩))
            all_goals
              go_roundw
              case rel => exact ⟨k + 1, 3, by omega, by go_num, by rw [HS.out, HG1.out (by assumption)], rfl, by rw [HS.out, HG1.out (by assumption)]; unfold Inv; dsimp only; omega, hb3.out _⟩
              case measure => simp [intOf]; omega
          · obtain ⟨rfl, rfl, rfl, rfl⟩ := hA
            obtain rfl : p = 2 := by omega
            clear hI
            go_wp2_with (first | (go_at_call 16; refine (class_is _ _ _ HF.out).mono ?_; rintro e w' ⟨rfl, rfl⟩) | (go_at_call 17; refine (completed_any _ _).mono ?_; rintro e w' ⟨rfl, rfl⟩))
            all_goals
              go_roundw
              case rel => exact ⟨k + 1, 3, by omega, by go_num, by rw [HS.out, HG1.out (by assumption)], rfl, by rw [HS.out, HG1.out (by assumption)]; unfold Inv; dsimp only; omega, hb3.out _⟩
              case measure => simp [intOf]; omega
          · obtain ⟨rfl, rfl, rfl⟩ := hA
            obtain rfl : p = 2 := by omega
            clear hI
            go_wp2_with (first | (go_at_call 16; refine (class_is _ _ _ HF.out).mono ?_; rintro e w' ⟨rfl, rfl⟩) | (go_at_call 17; refine (completed_any _ _).mono ?_; rintro e w' ⟨rfl, rfl⟩))
            all_goals
              go_roundw
              case rel => exact ⟨k + 1, 2, by omega, by go_num, by rw [HS.out, HG1.out (by assumption)], rfl, by rw [HS.out, HG1.out (by assumption)]; unfold Inv; dsimp only; omega, hb3.out _⟩
              case measure => simp [intOf]; omega
          · obtain ⟨h1, h2, rfl, rfl⟩ := hA
            obtain rfl : p = 3 := by omega
            clear hI
            go_wp2_with (first | (go_at_call 16; refine (class_is _ _ _ HF.out).mono ?_; rintro e w' ⟨rfl, rfl⟩) | (go_at_call 17; refine (completed_any _ _).mono ?_; rintro e w' ⟨rfl, rfl⟩))
            all_goals
              go_roundw
              case rel => exact ⟨k + 1, 3, by omega, by go_num, by rw [HS.out, HG1.out (by assumption)], rfl, by rw [HS.out, HG1.out (by assumption)]; unfold Inv; dsimp only; omega, hb3.out _⟩
              case measure => simp [intOf]; omega
          · obtain ⟨h1, h2, h3, h4, h5, h6⟩ := hA
            obtain rfl : p = 3 := by omega
            have t1 : (cl == 5) = false := by simpa using h3
            have t2 : (s == 4) = false := by simpa using h4
            have t3 : (s == 8) = false := by simp; omega
            clear h3 h4
            clear hI
            go_wp2_with (first | (go_at_call 16; refine (class_is _ _ _ HF.out).mono ?_; rintro e w' ⟨rfl, rfl⟩) | (go_at_call 17; refine (completed_any _ _).mono ?_; rintro e w' ⟨rfl, rfl⟩))
            all_goals
              go_roundw
              case rel => exact ⟨k + 1, 3, by omega, by go_num, by rw [HS.out, HG1.out (by assumption)], rfl, by rw [HS.out, HG1.out (by assumption)]; unfold Inv; dsimp only; omega, hb3.out _⟩
              case measure => simp [intOf]; omega
          · obtain ⟨rfl, h3, h4, h5, h6⟩ := hA
            obtain rfl : p = 3 := by omega
            have t1 : (cl == 5) = false := by simpa using h3
            have t2 : (q == 5) = false := by simpa using h6
            clear h3 h6
            clear hI
            go_wp2_with (first | (go_at_call 16; refine (class_is _ _ _ HF.out).mono ?_; rintro e w' ⟨rfl, rfl⟩) | (go_at_call 17; refine (completed_any _ _).mono ?_; rintro e w' ⟨rfl, rfl⟩))
            all_goals
              go_roundw
              case rel => exact ⟨k + 1, 3, by omega, by go_num, by rw [HS.out, HG1.out (by assumption)], rfl, by rw [HS.out, HG1.out (by assumption)]; unfold Inv; dsimp only; omega, hb3.out _⟩
              case measure => simp [intOf]; omega
          · obtain ⟨rfl, rfl, rfl⟩ := hA
            have hp : p = 1 ∨ p = 2 ∨ p = 3 := by omega
            clear hI
            rcases hp with rfl | rfl | rfl
            · go_wp2_with (first | (go_at_call 16; refine (class_is _ _ _ HF.out).mono ?_; rintro e w' ⟨rfl, rfl⟩) | (go_at_call 17; refine (completed_any _ _).mono ?_; rintro e w' ⟨rfl, rfl⟩))
              all_goals
                go_roundw
                case rel => exact ⟨k + 1, 1, by omega, by go_num, by rw [HS.out, HG1.out (by assumption)], rfl, by rw [HS.out, HG1.out (by assumption)]; unfold Inv; dsimp only; omega, hb3.out _⟩
                case measure => simp [intOf]; omega
            · go_wp2_with (first | (go_at_call 16; refine (class_is _ _ _ HF.out).mono ?_; rintro e w' ⟨rfl, rfl⟩) | (go_at_call 17; refine (completed_any _ _).mono ?_; rintro e w' ⟨rfl, rfl⟩))
              all_goals
                go_roundw
                case rel => exact ⟨k + 1, 2, by omega, by go_num, by rw [HS.out, HG1.out (by assumption)], rfl, by rw [HS.out, HG1.out (by assumption)]; unfold Inv; dsimp only; omega, hb3.out _⟩
                case measure => simp [intOf]; omega
            · go_wp2_with (first | (go_at_call 16; refine (class_is _ _ _ HF.out).mono ?_; rintro e w' ⟨rfl, rfl⟩) | (go_at_call 17; refine (completed_any _ _).mono ?_; rintro e w' ⟨rfl, rfl⟩))
              all_goals
                go_roundw
                case rel => exact ⟨k + 1, 3, by omega, by go_num, by rw [HS.out, HG1.out (by assumption)], rfl, by rw [HS.out, HG1.out (by assumption)]; unfold Inv; dsimp only; omega, hb3.out _⟩
                case measure => simp [intOf]; omega
      · obtain rfl : k = r.length := by omega
        have e : r.take r.length = r := List.take_length
        rw [e]
        clear e hinv
        have hkd : decide (r.length < r.length) = false := by simp
        have hb03 := bthen hb02 hb
        go_wp2_with fail
        refine (flow_any A zs c wr hc (H.out.below hb03)).mono ?_
        rintro e w5 hrow5
        obtain ⟨g5, cap5, rfl, hcap5, hseen5, hb5⟩ := hrow5.seens (flow_ok zs H.out.ok) (by have := flow_length zs; omega)
        have hb05 := bthen hb03 hb5
        have Hseen5 := Lib.hid hseen5
        clear hrow5 hseen5
        go_wp2_with fail
        refine (run_any _ (flow zs) cap5 w5 hcap5 (HT.out.below hb05) Hseen5.out).mono ?_
        rintro e w6 ⟨rfl, hb6⟩
        rw [HR.out]
        go_wp2_with fail
        go_ret
        exact ⟨by simp, bthen hb05 hb6⟩

end Go.Proofs.YtdnammkfipfdbaaDoor
