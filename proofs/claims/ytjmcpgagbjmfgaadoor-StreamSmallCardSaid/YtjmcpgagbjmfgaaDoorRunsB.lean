/-
  The law's 'runs' on a slice of one packet, on empty slices, and on any slice.
-/
import Derived.Test.YtjmcpgagbjmfgaaDoorRuns
namespace Go.Proofs.YtjmcpgagbjmfgaaDoor
open Go.RowKit
set_option linter.unusedVariables false
set_option linter.unusedSimpArgs false

set_option maxRecDepth 100000 in
set_option maxHeartbeats 4000000 in
theorem runs_one (b off : Nat) (p0 : Pkt) (w : World) (HA : Hid (Ans w)) (HP : Hid (Pkts w (some ⟨b, off, none⟩) (p0 :: []))) (hd : Hid (p0.d = 0)) (ho : Hid (opens p0.kind p0.typ = true)) :
    Calls Tryd.prog 18 #[.slice (some ⟨b, off, none⟩) 1 1] w fun e w' => e = .returned (.bool true) ∧ Below w.heap.size w w' := by
  have hfb := (HP.out.ok p0 (by simp)).fa
  have hon : FlOk (opn p0.kind p0.typ) := opn_ok _ _ hfb.bk hfb.bt
  obtain ⟨X, hX⟩ : ∃ X, opn p0.kind p0.typ = X := ⟨_, rfl⟩
  rw [hX] at hon
  have HX := Lib.hid hX
  have hrun : runS [p0] = (X, 1) := by simp [runS, ho.out, hd.out, hX]
  have Hrun := Lib.hid hrun
  clear hX hrun hfb
  obtain ⟨i0, hi, hz0, hz1, hz2⟩ := info_parts info35b
  have hmx1 : 2000 ≤ maxLen := mx2000
  have hok := HP.out.ok
  have hnews := Lib.hid (HP.out.rd.below ((Below.refl _ _).alloc (Nat.le_refl _) (.cells #[] 35)))
  have hl2 : ((p0 :: []).map pcs).flatten.length = 1 * 20 := by have := flatten_length (pcs_each (p0 :: []) hok); simpa using this
  have hone : ∀ u ∈ ((p0 :: []).map pcs).flatten, u.oneCell' = true := by
    intro u hu
    obtain ⟨cs, hcs, hu⟩ := List.mem_flatten.1 hu
    obtain ⟨p, hp, rfl⟩ := List.mem_map.1 hcs
    rcases List.mem_cons.1 hu with rfl | hu
    · rfl
    · exact (hok p hp).one u hu
  have hL2 := Lib.hid hl2
  have Hone := Lib.hid hone
  have Hok := Lib.hid hok
  clear hl2 hone hok
  go_enter Tryd.func18, Tryd.ntmps18
  go_wp2_with (at_builtin; refine wpList_append_lies _ rfl _ _ 49 rfl w.heap.size 35 i0 _ 20 80 Tryd.underlying49 hi hz0 hz1 hz2 rfl (by decide) _ 0 [] rfl ⟨rfl, .inr ⟨w.heap.size, 0, #[], rfl, Nat.le_refl _, heap_alloc_new _ _, Nat.le_refl _, Nat.zero_le _, rfl, rfl⟩⟩ ⟨b, off, none⟩ 1 1 ((p0 :: []).map pcs).flatten rfl hL2.out (hnews.out.news (by decide)) Hone.out ?_ ?_ ?_ ?_ (w.heap.size + 1) (by simp) ?_; omega; omega; omega; (simp <;> omega); intro g cap w1 hown hgrow hat hglt)
  have b1 : Below w.heap.size w w1 := ((Below.refl _ _).alloc (Nat.le_refl _) _).grown hgrow (by simp) (fun k hk => by cases hk; exact Nat.le_refl _)
  simp only [Nat.zero_add, List.nil_append] at hown ⊢
  have hcap := own_cap hown
  have HC1 := Lib.hid (show Copied w1 b off g (p0 :: []) from ⟨HP.out.below b1, ⟨Hok.out, HP.out.len, Rd.of_own hown (pcs_each _ Hok.out) hglt⟩⟩)
  clear hown hgrow hat hnews hL2 Hone
  go_wp2_with fail
  refine (run_any (some ⟨g, 0, none⟩) (p0 :: []) _ cap w1 (by simp) hcap (HA.out.below b1) HC1.out.new).mono ?_
  rintro e w2 ⟨he, hb2⟩
  rw [Hrun.out] at he
  obtain ⟨x1, x2, x3⟩ := X
  simp only at he
  subst he
  have b2 := bthen b1 hb2
  have HC2 := Lib.hid (HC1.out.below hb2)
  have hr0 := HC2.out.old.at_ (i := 0) rfl
  rw [Nat.zero_mul, Nat.add_zero] at hr0
  obtain ⟨q0, Rq⟩ := range_tail hr0
  have hbl : b < w2.heap.size := cell_lt q0
  rw [hd.out] at q0
  have hp0 := Hok.out p0 (by simp)
  have HI9 := Lib.hid hp0.fa.hi
  obtain ⟨F0, hF0⟩ : ∃ F0, p0.F.toArray = F0 := ⟨_, rfl⟩
  have hRq : w2.rangeAt b (off + 1) F0.toList := by rw [← hF0]; simpa using Rq
  rw [hF0] at HI9
  have hfa : Hid (Fa F0 p0.kind p0.typ) := by rw [← hF0]; exact hp0.fa
  clear hb2 b1 HC1 hr0 Rq hp0 hF0
  go_wp2_with (refine wpList_load_wide 29 _ rfl (by rfl) _ _ rfl F0 _ Tryd.underlying29 rfl HI9.out ?_ ?_; · (repeat (first | with_reducible exact hRq | refine World.rangeAt_alloc ?_ _)))
  refine (ropen_is F0 p0.kind p0.typ (x1, x2, x3) true _ hfa.out HX.out ho.out).mono ?_
  rintro e w3 ⟨rfl, hb3⟩
  simp only
  have hw3 : Below w2.heap.size w2 w3 := bthen (((Below.refl _ _).alloc (Nat.le_refl _) _).alloc (by simp) _) hb3
  obtain ⟨x4, hx4⟩ : ∃ x4, w2.heap.size = x4 := ⟨_, rfl⟩
  have CX3 : C3 w3 w2.heap.size (x1, x2, x3) := C3.below ⟨by simp [go_sem], by simp [go_sem], by simp [go_sem], by simp [go_sem], by simp [go_sem], by simp [go_sem]⟩ hb3
  have CY3 : C3 w3 (w2.heap.size + 1) (0, 0, 0) := C3.below ⟨by simp [go_sem], by simp [go_sem], by simp [go_sem], by simp [go_sem], by simp [go_sem], by simp [go_sem]⟩ hb3
  rw [hx4] at CX3 CY3 hw3
  have HC2' := Lib.hid HC2.out
  have hx5 := b2.size
  rw [hx4] at hx5 ⊢
  obtain ⟨c0, c1, c2, f0, f1, f2⟩ := CY3
  simp only at c0 c1 c2
  have hy3 : x4 + 1 < w3.heap.size := cell_lt c0
  have hx3 : x4 < w3.heap.size := by omega
  have HX3 := Lib.hid CX3
  have HX4 := Lib.hid hx4
  clear hb3 CX3 HC2 q0 hRq hbl hx4
  go_wp2_with fail
  generalize hW : World.alloc _ _ = wo
  have hCW : C3 wo (x4 + 1) (x1, x2, x3) := by subst hW; exact ((⟨c0, c1, c2, f0, f1, f2⟩ : C3 w3 (x4 + 1) (0, 0, 0)).set (x1, x2, x3)).below ((Below.refl _ _).alloc (Nat.le_refl _) _)
  have hXW : C3 wo x4 (x1, x2, x3) := by subst hW; exact (HX3.out.other (by omega) (x1, x2, x3)).below ((Below.refl _ _).alloc (Nat.le_refl _) _)
  have hbW : Below x4 w2 wo := by subst hW; have h4 := HX4.out; have h3 := below_set3 (b := x4 + 1) hw3 (by omega) (x1, x2, x3); exact h3.alloc (by have := h3.size; omega) _
  have hb' : Below w2.heap.size w2 wo := by rw [HX4.out]; exact hbW
  have HC := Lib.hid (HC2'.out.below hb')
  have bo := bthen b2 hb'
  have CX := hXW
  have CY := hCW
  clear hW c0 c1 c2 f0 f1 f2 hy3 hx3 HX3 hw3 hCW hXW hbW hb' b2
  refine wp_loop_rounds 1 ?_
  rw [rounds_succ]
  have HCX := Lib.hid CX
  have HCY := Lib.hid CY
  clear CX CY
  go_wp2_with fail
  go_loopw [70] (fun i wr => ∃ k : Nat, k ≤ 1 ∧ i = .int .i64 k ∧ Below wo.heap.size wo wr) (fun i _ => 1 - (intOf i).toNat)
  case atStart => exact ⟨0, Nat.zero_le _, rfl, Below.refl _ _⟩
  case round =>
    obtain ⟨k, hk, rfl, hb4⟩ := hrel
    by_cases hkl : k < 1
    · obtain ⟨p, hrk⟩ : ∃ p, [p0][k]? = some p := ⟨_, List.getElem?_eq_getElem (by simpa using hkl)⟩
      have hpk := HC.out.old.ok p (List.mem_of_getElem? hrk)
      have R1 := (HC.out.old.below hb4).at_ hrk
      have R2 := (HC.out.new.below hb4).at_ hrk
      rw [Nat.zero_add] at R2
      have hneq := hpk.neq
      have hi35 : (Tryd.prog.info? 35).map (·.size) = some (pcs p).toArray.toList.length := by rw [info35]; simp [hpk.len20]
      obtain ⟨V, hV⟩ : ∃ V, (pcs p).toArray = V := ⟨_, rfl⟩
      have S1 : wr.rangeAt b (off + k * 20) V.toList := by rw [← hV]; simpa using R1
      have S2 : wr.rangeAt g (k * 20) V.toList := by rw [← hV]; simpa using R2
      rw [hV] at hneq hi35
      have I35 := Lib.hid hi35
      have hk0 : (0 : Int) ≤ (k : Int) := by omega
      have hk1 : (k : Int) < 1 := by omega
      have hkd : decide ((k : Int) < 1) = true := by simpa using hk1
      clear hrk hpk R1 R2 hV hi35
      go_wp2_with fail
      refine wp_region_still_lit (by kernel_rfl) (by kernel_rfl) ?_
      iterate 3 still_step
      refine wpStill_load_wide 35 _ rfl (by rfl) _ _ rfl V _ Tryd.underlying35 rfl I35.out ((World.rangeAt_drew _ _ _ _).2 S2) ?_
      iterate 3 still_step
      refine wpStill_load_wide 35 _ rfl (by rfl) _ _ rfl V _ Tryd.underlying35 rfl I35.out ((World.rangeAt_drew _ _ _ _).2 S1) ?_
      still_step
      refine wpStill_nil ?_
      clear hneq S1 S2
      go_wp2_with fail
      go_roundw
      case rel => exact ⟨k + 1, by omega, by go_num, hb4.drew⟩
      case measure => simp [intOf]; omega
    · have hkd : decide ((k : Int) < 1) = false := by simp; omega
      obtain ⟨c0, c1, c2, _, _, _⟩ := HCX.out.below hb4
      obtain ⟨d0, d1, d2, _, _, _⟩ := HCY.out.below hb4
      simp only at c0 c1 c2 d0 d1 d2
      go_wp2_with fail
      go_ret
      exact ⟨by first | rfl | simp, bthen bo hb4⟩

set_option maxRecDepth 100000 in
set_option maxHeartbeats 1000000 in
theorem runs_nil (w : World) : Calls Tryd.prog 18 #[.slice none 0 0] w fun e w' => e = .returned (.bool true) ∧ Below w.heap.size w w' := by
  obtain ⟨i0, hi, hz0, hz1, hz2⟩ := info_parts info35b
  go_enter Tryd.func18, Tryd.ntmps18
  go_wp2_with (at_builtin; refine wpList_append_own_none rfl _ _ 49 rfl w.heap.size 35 i0 20 Tryd.underlying49 hi _ 0 [] rfl ⟨rfl, .inr ⟨w.heap.size, 0, #[], rfl, Nat.le_refl _, heap_alloc_new _ _, Nat.le_refl _, Nat.zero_le _, rfl, rfl⟩⟩ rfl ?_)
  refine (run_nil _ _ _).mono ?_
  rintro e w' ⟨rfl, hb⟩
  unfold fl
  have B : Below w.heap.size w w' := bthen ((Below.refl _ _).alloc (Nat.le_refl _) _) hb
  have hB := B.size
  clear hb
  go_wp2_with fail
  refine wp_loop_rounds 1 ?_
  rw [rounds_succ]
  go_wp2_with fail
  go_ret
  exact ⟨by simp, by (repeat' (first | with_reducible exact B | refine Below.setCell ?_ (by first | omega | (simp; done) | (simp; omega)) _ | refine Below.alloc ?_ (by first | omega | (simp; done) | (simp; omega)) _))⟩

set_option maxRecDepth 100000 in
set_option maxHeartbeats 1000000 in
theorem runs_empty (a : Addr) (c : Nat) (w : World) : Calls Tryd.prog 18 #[.slice (some a) 0 c] w fun e w' => e = .returned (.bool true) ∧ Below w.heap.size w w' := by
  obtain ⟨i0, hi, hz0, hz1, hz2⟩ := info_parts info35b
  go_enter Tryd.func18, Tryd.ntmps18
  go_wp2_with (at_builtin; refine wpList_append_own _ rfl _ _ 49 rfl w.heap.size 35 i0 (.agg #[.int .u8 0, .int .u8 0, .int .u32 0, .int .u32 0, .int .u16 0, .int .u16 0, .int .u8 0, .int .u8 0, .int .u8 0, .int .u8 0, .int .u32 0, .int .u32 0, .int .i64 0, .int .i64 0, .int .u8 0, .int .u32 0, .int .u32 0, .int .u16 0, .int .u16 0, .int .u8 0]) 20 80 Tryd.underlying49 hi hz0 hz1 hz2 rfl (by decide) _ 0 [] rfl ⟨rfl, .inr ⟨w.heap.size, 0, #[], rfl, Nat.le_refl _, heap_alloc_new _ _, Nat.le_refl _, Nat.zero_le _, rfl, rfl⟩⟩ a 0 c [] rfl rfl (fun j u h => by simp at h) (fun u h => by simp at h) (Nat.zero_le _) (Nat.zero_le _) ?_ ?_; (simp <;> omega); intro v' w1 hown hgrow hiff)
  have hb1 : Below w.heap.size w w1 := ((Below.refl _ _).alloc (Nat.le_refl _) _).grown hgrow (by simp) (fun k hk => by cases hk; exact Nat.le_refl _)
  have hex : ∃ A' c', v' = .slice A' 0 c' := by
    rcases hown.2 with ⟨h, _⟩ | ⟨g', cap', cur, h, _⟩
    · exact ⟨_, _, h⟩
    · exact ⟨_, _, h⟩
  clear hown hgrow hiff
  obtain ⟨A', c', hv⟩ := hex
  rw [hv]
  clear hv
  go_wp2_with fail
  refine (run_nil _ _ _).mono ?_
  rintro e w' ⟨rfl, hb⟩
  unfold fl
  have B := bthen hb1 hb
  have hB := B.size
  clear hb hb1
  go_wp2_with fail
  refine wp_loop_rounds 1 ?_
  rw [rounds_succ]
  go_wp2_with fail
  go_ret
  exact ⟨by simp, by (repeat' (first | with_reducible exact B | refine Below.setCell ?_ (by first | omega | (simp; done) | (simp; omega)) _ | refine Below.alloc ?_ (by first | omega | (simp; done) | (simp; omega)) _))⟩

/-- The law's 'runs', whatever slice of packets. -/
theorem runs_any (A : Option Addr) (l : List Pkt) (n c : Nat) (w : World) (hA : Ans w) (hn : n = l.length) (hc : n ≤ c) (hmx : c ≤ maxLen) (hnil : A = none → n = 0 ∧ c = 0) (hok : ∀ p ∈ l, PktOk p) (hrd : Rd w A 20 (l.map pcs)) :
    Calls Tryd.prog 18 #[.slice A n c] w fun e w' => e = .returned (.bool true) ∧ Below w.heap.size w w' := by
  subst hn
  by_cases hlong : 300 < l.length
  · exact runs_long A _ c w hlong
  cases l with
  | nil =>
    cases A with
    | none =>
      obtain ⟨_, rfl⟩ := hnil rfl
      exact runs_nil w
    | some a => exact runs_empty a c w
  | cons p r =>
    obtain ⟨b, off, rfl, hlt, _⟩ := hrd.mem (by simp)
    have hl : r.length + 1 ≤ 300 := by simp at hlong; omega
    have HP : Pkts w (some ⟨b, off, none⟩) (p :: r) := ⟨hok, by simp; omega, hrd⟩
    by_cases hd : p.d = 0
    · cases ho : opens p.kind p.typ with
      | true =>
        by_cases hc1 : c = 1
        · have hr : r = [] := List.eq_nil_of_length_eq_zero (by simp at hc; omega)
          subst hr hc1
          exact runs_one b off p w hA HP hd ho
        · exact runs_yes b off p r c w hc hl hmx hA HP hc1 hd ho
      | false => exact runs_noopen b off p r c w hc hl hmx hA HP hd ho
    · exact runs_nodir b off p r c w hc hl hmx hA HP (by simpa [Hid] using hd)

end Go.Proofs.YtjmcpgagbjmfgaaDoor
