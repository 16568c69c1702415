/-
  The contract of the laws' own 'awake' (the chapter's examples): it returns true, and writes nothing that was there.
-/
import Derived.Test.YtjmcpgagbjmfgaaDoorStep
namespace Go.Proofs.YtjmcpgagbjmfgaaDoor
open Go.RowKit
set_option linter.unusedVariables false
set_option linter.unusedSimpArgs false

theorem answer_is (t a : Int) (b : Bool) (w : World) (ht : 0 ≤ t) (ht1 : t ≤ 255) (h : Ans w) (h1 : ans t = a) (h2 : isq t = b) :
    Calls Tryd.prog 15 #[.int .u8 t] w fun e w' => e = .returned (.tuple #[.int .u8 a, .bool b]) ∧ w = w' := by
  subst h1 h2
  exact answer_any t w ht ht1 h
theorem open_is (F : Array Value) (kind typ : Int) (x : Int × Int × Int) (b : Bool) (w : World) (h : Fa F kind typ) (hA : Ans w) (h1 : opn kind typ = x) (h2 : opens kind typ = b) :
    Calls Tryd.prog 13 #[.agg F] w fun e w' => e = .returned (.tuple #[.agg #[.int .u8 x.1, .int .u8 x.2.1, .int .u8 x.2.2], .bool b]) ∧ Below w.heap.size w w' := by
  subst h1 h2
  exact open_any F kind typ w h hA
theorem step_is (F : Array Value) (k s t d kind typ : Int) (x : Int × Int × Int) (b : Bool) (w : World) (h : Fa F kind typ) (hA : Ans w) (hk : 0 ≤ k ∧ k ≤ 255) (ht : 0 ≤ t ∧ t ≤ 255) (hd : 0 ≤ d) (h1 : stF k s t d kind typ = x) (h2 : alw k s t d kind typ = b) :
    Calls Tryd.prog 14 #[.agg #[.int .u8 k, .int .u8 s, .int .u8 t], .int .u8 d, .agg F] w fun e w' => e = .returned (.tuple #[.agg #[.int .u8 x.1, .int .u8 x.2.1, .int .u8 x.2.2], .bool b]) ∧ Below w.heap.size w w' := by
  subst h1 h2
  exact step_any F k s t d kind typ w h hA hk ht hd
theorem name_is (n : Int) (s : ByteArray) (w : World) (h : nme n = s) : Calls Tryd.prog 17 #[.int .u8 n] w fun e w' => e = .returned (.string s) ∧ w = w' := by
  subst h
  exact name_any n w
theorem info_pkt (k t : Int) : (Tryd.prog.info? 29).map (·.size) = some (pkt k t).toList.length := by rw [info29]; rfl

set_option maxRecDepth 100000 in
set_option maxHeartbeats 4000000 in
theorem awake_any (w : World) (hA : Ans w) : Calls Tryd.prog 11 #[] w fun e w' => e = .returned (.bool true) ∧ Below w.heap.size w w' := by
  have HA := Lib.hid hA
  clear hA
  go_enter Tryd.func11, Tryd.ntmps11
  go_wp2_with fail
  refine (answer_is 8 0 true _ (by decide) (by decide) HA.out rfl rfl).mono ?_
  rintro e w' ⟨rfl, rfl⟩
  go_wp2_with fail
  refine (answer_is 0 0 false _ (by decide) (by decide) HA.out rfl rfl).mono ?_
  rintro e w' ⟨rfl, rfl⟩
  go_wp2_with (first | (refine wpList_store_wide 29 _ _ rfl rfl (w.heap.size + 1 + 1) 0 (pkt 4 0) rfl rfl w.heap.size w info29 (by decide +kernel) hv2 (by omega) (ht2 _ _ _ (ht1 _ _ _ ?_)) ?_; (· (repeat (first | (refine there_new _ _ _ _ _ ?_ rfl; first | rfl | (simp; done)) | refine World.there_alloc ?_ _))); intro v3 hv3 hz3 S2 hk3 ht3 hc3; have S0 := hk3 _ _ _ (by omega) Q0; have S1 := hk3 _ _ _ (by omega) R1; have hz4 : w.heap.size + 1 + 1 < v3.heap.size := (by simp only [World.size_alloc] at hz1; omega); clear hk1 ht1 hc1 hk2 ht2 hc2 hk3 ht3 hc3 hz1 hz2 hz3 R0 Q0 R1) | (refine wpList_store_wide 29 _ _ rfl rfl (w.heap.size + 1) 0 (pkt 3 8) rfl rfl w.heap.size w info29 (by decide +kernel) hv1 (by omega) (ht1 _ _ _ ?_) ?_; (· (repeat (first | (refine there_new _ _ _ _ _ ?_ rfl; first | rfl | (simp; done)) | refine World.there_alloc ?_ _))); intro v2 hv2 hz2 R1 hk2 ht2 hc2; have Q0 := hk2 _ _ _ (by omega) R0) | (refine wpList_store_wide 29 _ _ rfl rfl w.heap.size 0 (pkt 2 0) rfl rfl w.heap.size w info29 (by decide +kernel) ?_ (by omega) ?_ ?_; (· (repeat' (first | exact Below.refl _ _ | refine Below.alloc ?_ (by first | omega | (simp; done) | (simp; omega)) _))); (· (repeat (first | (refine there_new _ _ _ _ _ ?_ rfl; first | rfl | (simp; done)) | refine World.there_alloc ?_ _))); intro v1 hv1 hz1 R0 hk1 ht1 hc1) | (refine wpList_load_wide 29 _ rfl (by rfl) _ _ rfl (pkt 2 0) _ Tryd.underlying29 rfl (info_pkt _ _) S0 ?_))
  refine (open_is (pkt 2 0) 2 0 (2, 1, 0) true _ (fa_pkt 2 0 (by decide) (by decide)) (HA.out.below hv3) rfl rfl).mono ?_
  rintro e w1 ⟨rfl, hb⟩
  have b1 : Below w.heap.size w w1 := hv3.trans (hb.mono hv3.size)
  have d1 : Below w.heap.size w w1 := b1
  have R01 : w1.rangeAt (w.heap.size) 0 (pkt 2 0).toList := range_below hb (by omega) S0
  have R11 : w1.rangeAt (w.heap.size + 1) 0 (pkt 3 8).toList := range_below hb (by omega) S1
  have R21 : w1.rangeAt (w.heap.size + 1 + 1) 0 (pkt 4 0).toList := range_below hb (by omega) S2
  have zw_1 : w.heap.size + 1 + 1 < w1.heap.size := Nat.lt_of_lt_of_le hz4 hb.size
  clear hv3 S0 S1 S2 hz4
  clear hb
  as_aux_lemma =>
    go_wp2_with (first | (refine wpList_load_wide 29 _ rfl (by rfl) _ _ rfl (pkt 2 0) _ Tryd.underlying29 rfl (info_pkt _ _) ?_ ?_; · (repeat (first | with_reducible assumption | (refine range_new' _ _ _ _ ?_; first | rfl | (simp; done)) | refine World.rangeAt_alloc ?_ _))) | (refine wpList_load_wide 29 _ rfl (by rfl) _ _ rfl (pkt 3 8) _ Tryd.underlying29 rfl (info_pkt _ _) ?_ ?_; · (repeat (first | with_reducible assumption | (refine range_new' _ _ _ _ ?_; first | rfl | (simp; done)) | refine World.rangeAt_alloc ?_ _))) | (refine wpList_load_wide 29 _ rfl (by rfl) _ _ rfl (pkt 4 0) _ Tryd.underlying29 rfl (info_pkt _ _) ?_ ?_; · (repeat (first | with_reducible assumption | (refine range_new' _ _ _ _ ?_; first | rfl | (simp; done)) | refine World.rangeAt_alloc ?_ _))))
    refine (step_is (pkt 2 0) 2 1 0 0 2 0 (2, 1, 0) true _ (fa_pkt 2 0 (by decide) (by decide)) ((HA.out.below d1).below (by (repeat' (first | exact Below.refl _ _ | refine Below.alloc ?_ (by first | omega | (simp; done) | (simp; omega)) _)))) (by decide) (by decide) (by decide) rfl rfl).mono ?_
    rintro e w2 ⟨rfl, hb⟩
    have b2 : Below w1.heap.size w1 w2 := bthen (by (repeat' (first | exact Below.refl _ _ | refine Below.alloc ?_ (by first | omega | (simp; done) | (simp; omega)) _))) hb
    have d2 : Below w.heap.size w w2 := bthen d1 b2
    have R02 : w2.rangeAt (w.heap.size) 0 (pkt 2 0).toList := range_below b2 (by omega) R01
    have R12 : w2.rangeAt (w.heap.size + 1) 0 (pkt 3 8).toList := range_below b2 (by omega) R11
    have R22 : w2.rangeAt (w.heap.size + 1 + 1) 0 (pkt 4 0).toList := range_below b2 (by omega) R21
    have f0_2 : w2.cell? ⟨w1.heap.size, 0, none⟩ = some (.int .u8 2) := (hb.cell (p := ⟨w1.heap.size, 0, none⟩) (by simp)).trans (by simp [go_sem])
    have f1_2 : w2.cell? ⟨w1.heap.size, 1, none⟩ = some (.int .u8 1) := (hb.cell (p := ⟨w1.heap.size, 1, none⟩) (by simp)).trans (by simp [go_sem])
    have f2_2 : w2.cell? ⟨w1.heap.size, 2, none⟩ = some (.int .u8 0) := (hb.cell (p := ⟨w1.heap.size, 2, none⟩) (by simp)).trans (by simp [go_sem])
    have zf_2 : w1.heap.size < w2.heap.size := by have := hb.size; simp at this; omega
    have zw_2 : w.heap.size + 1 + 1 < w2.heap.size := Nat.lt_of_lt_of_le zw_1 b2.size
    clear R01
    clear R11
    clear R21
    clear zw_1 b2 d1
    clear hb
    as_aux_lemma =>
      go_wp2_with (first | (refine wpList_load_wide 29 _ rfl (by rfl) _ _ rfl (pkt 2 0) _ Tryd.underlying29 rfl (info_pkt _ _) ?_ ?_; · (repeat (first | with_reducible assumption | (refine range_new' _ _ _ _ ?_; first | rfl | (simp; done)) | refine World.rangeAt_alloc ?_ _))) | (refine wpList_load_wide 29 _ rfl (by rfl) _ _ rfl (pkt 3 8) _ Tryd.underlying29 rfl (info_pkt _ _) ?_ ?_; · (repeat (first | with_reducible assumption | (refine range_new' _ _ _ _ ?_; first | rfl | (simp; done)) | refine World.rangeAt_alloc ?_ _))) | (refine wpList_load_wide 29 _ rfl (by rfl) _ _ rfl (pkt 4 0) _ Tryd.underlying29 rfl (info_pkt _ _) ?_ ?_; · (repeat (first | with_reducible assumption | (refine range_new' _ _ _ _ ?_; first | rfl | (simp; done)) | refine World.rangeAt_alloc ?_ _))))
      refine (step_is (pkt 2 0) 2 1 0 1 2 0 (2, 2, 0) true _ (fa_pkt 2 0 (by decide) (by decide)) ((HA.out.below d2).below (by (repeat' (first | exact Below.refl _ _ | refine Below.alloc ?_ (by first | omega | (simp; done) | (simp; omega)) _)))) (by decide) (by decide) (by decide) rfl rfl).mono ?_
      rintro e w3 ⟨rfl, hb⟩
      have b3 : Below w2.heap.size w2 w3 := bthen (by (repeat' (first | exact Below.refl _ _ | refine Below.alloc ?_ (by first | omega | (simp; done) | (simp; omega)) _))) hb
      have d3 : Below w.heap.size w w3 := bthen d2 b3
      have R03 : w3.rangeAt (w.heap.size) 0 (pkt 2 0).toList := range_below b3 (by omega) R02
      have R13 : w3.rangeAt (w.heap.size + 1) 0 (pkt 3 8).toList := range_below b3 (by omega) R12
      have R23 : w3.rangeAt (w.heap.size + 1 + 1) 0 (pkt 4 0).toList := range_below b3 (by omega) R22
      have f0_3 : w3.cell? ⟨w1.heap.size, 0, none⟩ = some (.int .u8 2) := (b3.cell (p := ⟨w1.heap.size, 0, none⟩) (by show w1.heap.size < w2.heap.size; omega)).trans f0_2
      have f1_3 : w3.cell? ⟨w1.heap.size, 1, none⟩ = some (.int .u8 1) := (b3.cell (p := ⟨w1.heap.size, 1, none⟩) (by show w1.heap.size < w2.heap.size; omega)).trans f1_2
      have f2_3 : w3.cell? ⟨w1.heap.size, 2, none⟩ = some (.int .u8 0) := (b3.cell (p := ⟨w1.heap.size, 2, none⟩) (by show w1.heap.size < w2.heap.size; omega)).trans f2_2
      have zf_3 : w1.heap.size < w3.heap.size := Nat.lt_of_lt_of_le zf_2 b3.size
      have g0_3 : w3.cell? ⟨w2.heap.size, 0, none⟩ = some (.int .u8 2) := (hb.cell (p := ⟨w2.heap.size, 0, none⟩) (by simp)).trans (by simp [go_sem])
      have g1_3 : w3.cell? ⟨w2.heap.size, 1, none⟩ = some (.int .u8 1) := (hb.cell (p := ⟨w2.heap.size, 1, none⟩) (by simp)).trans (by simp [go_sem])
      have g2_3 : w3.cell? ⟨w2.heap.size, 2, none⟩ = some (.int .u8 0) := (hb.cell (p := ⟨w2.heap.size, 2, none⟩) (by simp)).trans (by simp [go_sem])
      have zg_3 : w2.heap.size < w3.heap.size := by have := hb.size; simp at this; omega
      have zw_3 : w.heap.size + 1 + 1 < w3.heap.size := Nat.lt_of_lt_of_le zw_2 b3.size
      clear R02
      clear R12
      clear R22
      clear f0_2 f1_2 f2_2 zf_2
      clear zw_2 b3 d2
      clear hb
      as_aux_lemma =>
        go_wp2_with (first | (refine wpList_load_wide 29 _ rfl (by rfl) _ _ rfl (pkt 2 0) _ Tryd.underlying29 rfl (info_pkt _ _) ?_ ?_; · (repeat (first | with_reducible assumption | (refine range_new' _ _ _ _ ?_; first | rfl | (simp; done)) | refine World.rangeAt_alloc ?_ _))) | (refine wpList_load_wide 29 _ rfl (by rfl) _ _ rfl (pkt 3 8) _ Tryd.underlying29 rfl (info_pkt _ _) ?_ ?_; · (repeat (first | with_reducible assumption | (refine range_new' _ _ _ _ ?_; first | rfl | (simp; done)) | refine World.rangeAt_alloc ?_ _))) | (refine wpList_load_wide 29 _ rfl (by rfl) _ _ rfl (pkt 4 0) _ Tryd.underlying29 rfl (info_pkt _ _) ?_ ?_; · (repeat (first | with_reducible assumption | (refine range_new' _ _ _ _ ?_; first | rfl | (simp; done)) | refine World.rangeAt_alloc ?_ _))))
        refine (step_is (pkt 2 0) 2 2 0 0 2 0 (2, 2, 0) true _ (fa_pkt 2 0 (by decide) (by decide)) ((HA.out.below d3).below (by (repeat' (first | exact Below.refl _ _ | refine Below.alloc ?_ (by first | omega | (simp; done) | (simp; omega)) _)))) (by decide) (by decide) (by decide) rfl rfl).mono ?_
        rintro e w4 ⟨rfl, hb⟩
        have b4 : Below w3.heap.size w3 w4 := bthen (by (repeat' (first | exact Below.refl _ _ | refine Below.alloc ?_ (by first | omega | (simp; done) | (simp; omega)) _))) hb
        have d4 : Below w.heap.size w w4 := bthen d3 b4
        have R04 : w4.rangeAt (w.heap.size) 0 (pkt 2 0).toList := range_below b4 (by omega) R03
        have R14 : w4.rangeAt (w.heap.size + 1) 0 (pkt 3 8).toList := range_below b4 (by omega) R13
        have R24 : w4.rangeAt (w.heap.size + 1 + 1) 0 (pkt 4 0).toList := range_below b4 (by omega) R23
        have f0_4 : w4.cell? ⟨w1.heap.size, 0, none⟩ = some (.int .u8 2) := (b4.cell (p := ⟨w1.heap.size, 0, none⟩) (by show w1.heap.size < w3.heap.size; omega)).trans f0_3
        have f1_4 : w4.cell? ⟨w1.heap.size, 1, none⟩ = some (.int .u8 1) := (b4.cell (p := ⟨w1.heap.size, 1, none⟩) (by show w1.heap.size < w3.heap.size; omega)).trans f1_3
        have f2_4 : w4.cell? ⟨w1.heap.size, 2, none⟩ = some (.int .u8 0) := (b4.cell (p := ⟨w1.heap.size, 2, none⟩) (by show w1.heap.size < w3.heap.size; omega)).trans f2_3
        have zf_4 : w1.heap.size < w4.heap.size := Nat.lt_of_lt_of_le zf_3 b4.size
        have g0_4 : w4.cell? ⟨w2.heap.size, 0, none⟩ = some (.int .u8 2) := (b4.cell (p := ⟨w2.heap.size, 0, none⟩) (by show w2.heap.size < w3.heap.size; omega)).trans g0_3
        have g1_4 : w4.cell? ⟨w2.heap.size, 1, none⟩ = some (.int .u8 1) := (b4.cell (p := ⟨w2.heap.size, 1, none⟩) (by show w2.heap.size < w3.heap.size; omega)).trans g1_3
        have g2_4 : w4.cell? ⟨w2.heap.size, 2, none⟩ = some (.int .u8 0) := (b4.cell (p := ⟨w2.heap.size, 2, none⟩) (by show w2.heap.size < w3.heap.size; omega)).trans g2_3
        have zg_4 : w2.heap.size < w4.heap.size := Nat.lt_of_lt_of_le zg_3 b4.size
        have h0_4 : w4.cell? ⟨w3.heap.size, 0, none⟩ = some (.int .u8 2) := (hb.cell (p := ⟨w3.heap.size, 0, none⟩) (by simp)).trans (by simp [go_sem])
        have h1_4 : w4.cell? ⟨w3.heap.size, 1, none⟩ = some (.int .u8 2) := (hb.cell (p := ⟨w3.heap.size, 1, none⟩) (by simp)).trans (by simp [go_sem])
        have h2_4 : w4.cell? ⟨w3.heap.size, 2, none⟩ = some (.int .u8 0) := (hb.cell (p := ⟨w3.heap.size, 2, none⟩) (by simp)).trans (by simp [go_sem])
        have zh_4 : w3.heap.size < w4.heap.size := by have := hb.size; simp at this; omega
        have zw_4 : w.heap.size + 1 + 1 < w4.heap.size := Nat.lt_of_lt_of_le zw_3 b4.size
        clear R03
        clear R13
        clear R23
        clear f0_3 f1_3 f2_3 zf_3
        clear g0_3 g1_3 g2_3 zg_3
        clear zw_3 b4 d3
        clear hb
        as_aux_lemma =>
          go_wp2_with (first | (refine wpList_load_wide 29 _ rfl (by rfl) _ _ rfl (pkt 2 0) _ Tryd.underlying29 rfl (info_pkt _ _) ?_ ?_; · (repeat (first | with_reducible assumption | (refine range_new' _ _ _ _ ?_; first | rfl | (simp; done)) | refine World.rangeAt_alloc ?_ _))) | (refine wpList_load_wide 29 _ rfl (by rfl) _ _ rfl (pkt 3 8) _ Tryd.underlying29 rfl (info_pkt _ _) ?_ ?_; · (repeat (first | with_reducible assumption | (refine range_new' _ _ _ _ ?_; first | rfl | (simp; done)) | refine World.rangeAt_alloc ?_ _))) | (refine wpList_load_wide 29 _ rfl (by rfl) _ _ rfl (pkt 4 0) _ Tryd.underlying29 rfl (info_pkt _ _) ?_ ?_; · (repeat (first | with_reducible assumption | (refine range_new' _ _ _ _ ?_; first | rfl | (simp; done)) | refine World.rangeAt_alloc ?_ _))))
          refine (name_is 1 ⟨#[97, 115, 107, 101, 100]⟩ _ rfl).mono ?_
          rintro e w' ⟨rfl, rfl⟩
          go_wp2_with fail
          refine (name_is 2 ⟨#[97, 110, 115, 119, 101, 114, 101, 100]⟩ _ rfl).mono ?_
          rintro e w' ⟨rfl, rfl⟩
          go_wp2_with (first | (refine wpList_load_wide 29 _ rfl (by rfl) _ _ rfl (pkt 2 0) _ Tryd.underlying29 rfl (info_pkt _ _) ?_ ?_; · (repeat (first | with_reducible assumption | (refine range_new' _ _ _ _ ?_; first | rfl | (simp; done)) | refine World.rangeAt_alloc ?_ _))) | (refine wpList_load_wide 29 _ rfl (by rfl) _ _ rfl (pkt 3 8) _ Tryd.underlying29 rfl (info_pkt _ _) ?_ ?_; · (repeat (first | with_reducible assumption | (refine range_new' _ _ _ _ ?_; first | rfl | (simp; done)) | refine World.rangeAt_alloc ?_ _))) | (refine wpList_load_wide 29 _ rfl (by rfl) _ _ rfl (pkt 4 0) _ Tryd.underlying29 rfl (info_pkt _ _) ?_ ?_; · (repeat (first | with_reducible assumption | (refine range_new' _ _ _ _ ?_; first | rfl | (simp; done)) | refine World.rangeAt_alloc ?_ _))))
          refine (open_is (pkt 3 8) 3 8 (3, 1, 8) true _ (fa_pkt 3 8 (by decide) (by decide)) ((HA.out.below d4).below (by (repeat' (first | exact Below.refl _ _ | refine Below.alloc ?_ (by first | omega | (simp; done) | (simp; omega)) _)))) rfl rfl).mono ?_
          rintro e w5 ⟨rfl, hb⟩
          have b5 : Below w4.heap.size w4 w5 := bthen (by (repeat' (first | exact Below.refl _ _ | refine Below.alloc ?_ (by first | omega | (simp; done) | (simp; omega)) _))) hb
          have d5 : Below w.heap.size w w5 := bthen d4 b5
          have R05 : w5.rangeAt (w.heap.size) 0 (pkt 2 0).toList := range_below b5 (by omega) R04
          have R15 : w5.rangeAt (w.heap.size + 1) 0 (pkt 3 8).toList := range_below b5 (by omega) R14
          have R25 : w5.rangeAt (w.heap.size + 1 + 1) 0 (pkt 4 0).toList := range_below b5 (by omega) R24
          have f0_5 : w5.cell? ⟨w1.heap.size, 0, none⟩ = some (.int .u8 2) := (b5.cell (p := ⟨w1.heap.size, 0, none⟩) (by show w1.heap.size < w4.heap.size; omega)).trans f0_4
          have f1_5 : w5.cell? ⟨w1.heap.size, 1, none⟩ = some (.int .u8 1) := (b5.cell (p := ⟨w1.heap.size, 1, none⟩) (by show w1.heap.size < w4.heap.size; omega)).trans f1_4
          have f2_5 : w5.cell? ⟨w1.heap.size, 2, none⟩ = some (.int .u8 0) := (b5.cell (p := ⟨w1.heap.size, 2, none⟩) (by show w1.heap.size < w4.heap.size; omega)).trans f2_4
          have zf_5 : w1.heap.size < w5.heap.size := Nat.lt_of_lt_of_le zf_4 b5.size
          have g0_5 : w5.cell? ⟨w2.heap.size, 0, none⟩ = some (.int .u8 2) := (b5.cell (p := ⟨w2.heap.size, 0, none⟩) (by show w2.heap.size < w4.heap.size; omega)).trans g0_4
          have g1_5 : w5.cell? ⟨w2.heap.size, 1, none⟩ = some (.int .u8 1) := (b5.cell (p := ⟨w2.heap.size, 1, none⟩) (by show w2.heap.size < w4.heap.size; omega)).trans g1_4
          have g2_5 : w5.cell? ⟨w2.heap.size, 2, none⟩ = some (.int .u8 0) := (b5.cell (p := ⟨w2.heap.size, 2, none⟩) (by show w2.heap.size < w4.heap.size; omega)).trans g2_4
          have zg_5 : w2.heap.size < w5.heap.size := Nat.lt_of_lt_of_le zg_4 b5.size
          have h0_5 : w5.cell? ⟨w3.heap.size, 0, none⟩ = some (.int .u8 2) := (b5.cell (p := ⟨w3.heap.size, 0, none⟩) (by show w3.heap.size < w4.heap.size; omega)).trans h0_4
          have h1_5 : w5.cell? ⟨w3.heap.size, 1, none⟩ = some (.int .u8 2) := (b5.cell (p := ⟨w3.heap.size, 1, none⟩) (by show w3.heap.size < w4.heap.size; omega)).trans h1_4
          have h2_5 : w5.cell? ⟨w3.heap.size, 2, none⟩ = some (.int .u8 0) := (b5.cell (p := ⟨w3.heap.size, 2, none⟩) (by show w3.heap.size < w4.heap.size; omega)).trans h2_4
          have zh_5 : w3.heap.size < w5.heap.size := Nat.lt_of_lt_of_le zh_4 b5.size
          have i0_5 : w5.cell? ⟨w4.heap.size, 0, none⟩ = some (.int .u8 2) := (hb.cell (p := ⟨w4.heap.size, 0, none⟩) (by simp)).trans (by simp [go_sem])
          have i1_5 : w5.cell? ⟨w4.heap.size, 1, none⟩ = some (.int .u8 2) := (hb.cell (p := ⟨w4.heap.size, 1, none⟩) (by simp)).trans (by simp [go_sem])
          have i2_5 : w5.cell? ⟨w4.heap.size, 2, none⟩ = some (.int .u8 0) := (hb.cell (p := ⟨w4.heap.size, 2, none⟩) (by simp)).trans (by simp [go_sem])
          have zi_5 : w4.heap.size < w5.heap.size := by have := hb.size; simp at this; omega
          have zw_5 : w.heap.size + 1 + 1 < w5.heap.size := Nat.lt_of_lt_of_le zw_4 b5.size
          clear R04
          clear R14
          clear R24
          clear f0_4 f1_4 f2_4 zf_4
          clear g0_4 g1_4 g2_4 zg_4
          clear h0_4 h1_4 h2_4 zh_4
          clear zw_4 b5 d4
          clear hb
          as_aux_lemma =>
            go_wp2_with (first | (refine wpList_load_wide 29 _ rfl (by rfl) _ _ rfl (pkt 2 0) _ Tryd.underlying29 rfl (info_pkt _ _) ?_ ?_; · (repeat (first | with_reducible assumption | (refine range_new' _ _ _ _ ?_; first | rfl | (simp; done)) | refine World.rangeAt_alloc ?_ _))) | (refine wpList_load_wide 29 _ rfl (by rfl) _ _ rfl (pkt 3 8) _ Tryd.underlying29 rfl (info_pkt _ _) ?_ ?_; · (repeat (first | with_reducible assumption | (refine range_new' _ _ _ _ ?_; first | rfl | (simp; done)) | refine World.rangeAt_alloc ?_ _))) | (refine wpList_load_wide 29 _ rfl (by rfl) _ _ rfl (pkt 4 0) _ Tryd.underlying29 rfl (info_pkt _ _) ?_ ?_; · (repeat (first | with_reducible assumption | (refine range_new' _ _ _ _ ?_; first | rfl | (simp; done)) | refine World.rangeAt_alloc ?_ _))))
            refine (step_is (pkt 4 0) 3 1 8 1 4 0 (3, 2, 8) true _ (fa_pkt 4 0 (by decide) (by decide)) ((HA.out.below d5).below (by (repeat' (first | exact Below.refl _ _ | refine Below.alloc ?_ (by first | omega | (simp; done) | (simp; omega)) _)))) (by decide) (by decide) (by decide) rfl rfl).mono ?_
            rintro e w6 ⟨rfl, hb⟩
            have b6 : Below w5.heap.size w5 w6 := bthen (by (repeat' (first | exact Below.refl _ _ | refine Below.alloc ?_ (by first | omega | (simp; done) | (simp; omega)) _))) hb
            have d6 : Below w.heap.size w w6 := bthen d5 b6
            have R06 : w6.rangeAt (w.heap.size) 0 (pkt 2 0).toList := range_below b6 (by omega) R05
            have R16 : w6.rangeAt (w.heap.size + 1) 0 (pkt 3 8).toList := range_below b6 (by omega) R15
            have R26 : w6.rangeAt (w.heap.size + 1 + 1) 0 (pkt 4 0).toList := range_below b6 (by omega) R25
            have q0_6 : w6.cell? ⟨w5.heap.size, 0, none⟩ = some (.int .u8 3) := (hb.cell (p := ⟨w5.heap.size, 0, none⟩) (by simp)).trans (by simp [go_sem])
            have q1_6 : w6.cell? ⟨w5.heap.size, 1, none⟩ = some (.int .u8 1) := (hb.cell (p := ⟨w5.heap.size, 1, none⟩) (by simp)).trans (by simp [go_sem])
            have q2_6 : w6.cell? ⟨w5.heap.size, 2, none⟩ = some (.int .u8 8) := (hb.cell (p := ⟨w5.heap.size, 2, none⟩) (by simp)).trans (by simp [go_sem])
            have zq_6 : w5.heap.size < w6.heap.size := by have := hb.size; simp at this; omega
            have zw_6 : w.heap.size + 1 + 1 < w6.heap.size := Nat.lt_of_lt_of_le zw_5 b6.size
            clear R05
            clear R15
            clear R25
            clear zw_5 b6 d5
            clear hb
            as_aux_lemma =>
              go_wp2_with (first | (refine wpList_load_wide 29 _ rfl (by rfl) _ _ rfl (pkt 2 0) _ Tryd.underlying29 rfl (info_pkt _ _) ?_ ?_; · (repeat (first | with_reducible assumption | (refine range_new' _ _ _ _ ?_; first | rfl | (simp; done)) | refine World.rangeAt_alloc ?_ _))) | (refine wpList_load_wide 29 _ rfl (by rfl) _ _ rfl (pkt 3 8) _ Tryd.underlying29 rfl (info_pkt _ _) ?_ ?_; · (repeat (first | with_reducible assumption | (refine range_new' _ _ _ _ ?_; first | rfl | (simp; done)) | refine World.rangeAt_alloc ?_ _))) | (refine wpList_load_wide 29 _ rfl (by rfl) _ _ rfl (pkt 4 0) _ Tryd.underlying29 rfl (info_pkt _ _) ?_ ?_; · (repeat (first | with_reducible assumption | (refine range_new' _ _ _ _ ?_; first | rfl | (simp; done)) | refine World.rangeAt_alloc ?_ _))))
              refine (step_is (pkt 4 14) 3 1 8 1 4 14 (0, 0, 0) false _ (fa_pkt 4 14 (by decide) (by decide)) ((HA.out.below d6).below (by (repeat' (first | exact Below.refl _ _ | refine Below.alloc ?_ (by first | omega | (simp; done) | (simp; omega)) _)))) (by decide) (by decide) (by decide) rfl rfl).mono ?_
              rintro e w7 ⟨rfl, hb⟩
              have b7 : Below w6.heap.size w6 w7 := bthen (by (repeat' (first | exact Below.refl _ _ | refine Below.alloc ?_ (by first | omega | (simp; done) | (simp; omega)) _))) hb
              have d7 : Below w.heap.size w w7 := bthen d6 b7
              have R07 : w7.rangeAt (w.heap.size) 0 (pkt 2 0).toList := range_below b7 (by omega) R06
              have R17 : w7.rangeAt (w.heap.size + 1) 0 (pkt 3 8).toList := range_below b7 (by omega) R16
              have R27 : w7.rangeAt (w.heap.size + 1 + 1) 0 (pkt 4 0).toList := range_below b7 (by omega) R26
              have q0_7 : w7.cell? ⟨w5.heap.size, 0, none⟩ = some (.int .u8 3) := (b7.cell (p := ⟨w5.heap.size, 0, none⟩) (by show w5.heap.size < w6.heap.size; omega)).trans q0_6
              have q1_7 : w7.cell? ⟨w5.heap.size, 1, none⟩ = some (.int .u8 1) := (b7.cell (p := ⟨w5.heap.size, 1, none⟩) (by show w5.heap.size < w6.heap.size; omega)).trans q1_6
              have q2_7 : w7.cell? ⟨w5.heap.size, 2, none⟩ = some (.int .u8 8) := (b7.cell (p := ⟨w5.heap.size, 2, none⟩) (by show w5.heap.size < w6.heap.size; omega)).trans q2_6
              have zq_7 : w5.heap.size < w7.heap.size := Nat.lt_of_lt_of_le zq_6 b7.size
              have r0_7 : w7.cell? ⟨w6.heap.size, 0, none⟩ = some (.int .u8 3) := (hb.cell (p := ⟨w6.heap.size, 0, none⟩) (by simp)).trans (by simp [go_sem])
              have r1_7 : w7.cell? ⟨w6.heap.size, 1, none⟩ = some (.int .u8 2) := (hb.cell (p := ⟨w6.heap.size, 1, none⟩) (by simp)).trans (by simp [go_sem])
              have r2_7 : w7.cell? ⟨w6.heap.size, 2, none⟩ = some (.int .u8 8) := (hb.cell (p := ⟨w6.heap.size, 2, none⟩) (by simp)).trans (by simp [go_sem])
              have zr_7 : w6.heap.size < w7.heap.size := by have := hb.size; simp at this; omega
              have zw_7 : w.heap.size + 1 + 1 < w7.heap.size := Nat.lt_of_lt_of_le zw_6 b7.size
              clear R06
              clear R16
              clear R26
              clear q0_6 q1_6 q2_6 zq_6
              clear zw_6 b7 d6
              clear hb
              as_aux_lemma =>
                go_wp2_with (first | (refine wpList_load_wide 29 _ rfl (by rfl) _ _ rfl (pkt 2 0) _ Tryd.underlying29 rfl (info_pkt _ _) ?_ ?_; · (repeat (first | with_reducible assumption | (refine range_new' _ _ _ _ ?_; first | rfl | (simp; done)) | refine World.rangeAt_alloc ?_ _))) | (refine wpList_load_wide 29 _ rfl (by rfl) _ _ rfl (pkt 3 8) _ Tryd.underlying29 rfl (info_pkt _ _) ?_ ?_; · (repeat (first | with_reducible assumption | (refine range_new' _ _ _ _ ?_; first | rfl | (simp; done)) | refine World.rangeAt_alloc ?_ _))) | (refine wpList_load_wide 29 _ rfl (by rfl) _ _ rfl (pkt 4 0) _ Tryd.underlying29 rfl (info_pkt _ _) ?_ ?_; · (repeat (first | with_reducible assumption | (refine range_new' _ _ _ _ ?_; first | rfl | (simp; done)) | refine World.rangeAt_alloc ?_ _))))
                refine (step_is (pkt 4 0) 3 1 8 0 4 0 (0, 0, 0) false _ (fa_pkt 4 0 (by decide) (by decide)) ((HA.out.below d7).below (by (repeat' (first | exact Below.refl _ _ | refine Below.alloc ?_ (by first | omega | (simp; done) | (simp; omega)) _)))) (by decide) (by decide) (by decide) rfl rfl).mono ?_
                rintro e w8 ⟨rfl, hb⟩
                have b8 : Below w7.heap.size w7 w8 := bthen (by (repeat' (first | exact Below.refl _ _ | refine Below.alloc ?_ (by first | omega | (simp; done) | (simp; omega)) _))) hb
                have d8 : Below w.heap.size w w8 := bthen d7 b8
                have R08 : w8.rangeAt (w.heap.size) 0 (pkt 2 0).toList := range_below b8 (by omega) R07
                have R18 : w8.rangeAt (w.heap.size + 1) 0 (pkt 3 8).toList := range_below b8 (by omega) R17
                have R28 : w8.rangeAt (w.heap.size + 1 + 1) 0 (pkt 4 0).toList := range_below b8 (by omega) R27
                have q0_8 : w8.cell? ⟨w5.heap.size, 0, none⟩ = some (.int .u8 3) := (b8.cell (p := ⟨w5.heap.size, 0, none⟩) (by show w5.heap.size < w7.heap.size; omega)).trans q0_7
                have q1_8 : w8.cell? ⟨w5.heap.size, 1, none⟩ = some (.int .u8 1) := (b8.cell (p := ⟨w5.heap.size, 1, none⟩) (by show w5.heap.size < w7.heap.size; omega)).trans q1_7
                have q2_8 : w8.cell? ⟨w5.heap.size, 2, none⟩ = some (.int .u8 8) := (b8.cell (p := ⟨w5.heap.size, 2, none⟩) (by show w5.heap.size < w7.heap.size; omega)).trans q2_7
                have zq_8 : w5.heap.size < w8.heap.size := Nat.lt_of_lt_of_le zq_7 b8.size
                have r0_8 : w8.cell? ⟨w6.heap.size, 0, none⟩ = some (.int .u8 3) := (b8.cell (p := ⟨w6.heap.size, 0, none⟩) (by show w6.heap.size < w7.heap.size; omega)).trans r0_7
                have r1_8 : w8.cell? ⟨w6.heap.size, 1, none⟩ = some (.int .u8 2) := (b8.cell (p := ⟨w6.heap.size, 1, none⟩) (by show w6.heap.size < w7.heap.size; omega)).trans r1_7
                have r2_8 : w8.cell? ⟨w6.heap.size, 2, none⟩ = some (.int .u8 8) := (b8.cell (p := ⟨w6.heap.size, 2, none⟩) (by show w6.heap.size < w7.heap.size; omega)).trans r2_7
                have zr_8 : w6.heap.size < w8.heap.size := Nat.lt_of_lt_of_le zr_7 b8.size
                have zw_8 : w.heap.size + 1 + 1 < w8.heap.size := Nat.lt_of_lt_of_le zw_7 b8.size
                clear R07
                clear R17
                clear R27
                clear q0_7 q1_7 q2_7 zq_7
                clear r0_7 r1_7 r2_7 zr_7
                clear zw_7 b8 d7
                clear hb
                as_aux_lemma =>
                  go_wp2_with (first | (refine wpList_load_wide 29 _ rfl (by rfl) _ _ rfl (pkt 2 0) _ Tryd.underlying29 rfl (info_pkt _ _) ?_ ?_; · (repeat (first | with_reducible assumption | (refine range_new' _ _ _ _ ?_; first | rfl | (simp; done)) | refine World.rangeAt_alloc ?_ _))) | (refine wpList_load_wide 29 _ rfl (by rfl) _ _ rfl (pkt 3 8) _ Tryd.underlying29 rfl (info_pkt _ _) ?_ ?_; · (repeat (first | with_reducible assumption | (refine range_new' _ _ _ _ ?_; first | rfl | (simp; done)) | refine World.rangeAt_alloc ?_ _))) | (refine wpList_load_wide 29 _ rfl (by rfl) _ _ rfl (pkt 4 0) _ Tryd.underlying29 rfl (info_pkt _ _) ?_ ?_; · (repeat (first | with_reducible assumption | (refine range_new' _ _ _ _ ?_; first | rfl | (simp; done)) | refine World.rangeAt_alloc ?_ _))))
                  refine (step_is (pkt 3 8) 3 1 8 1 3 8 (0, 0, 0) false _ (fa_pkt 3 8 (by decide) (by decide)) ((HA.out.below d8).below (by (repeat' (first | exact Below.refl _ _ | refine Below.alloc ?_ (by first | omega | (simp; done) | (simp; omega)) _)))) (by decide) (by decide) (by decide) rfl rfl).mono ?_
                  rintro e w9 ⟨rfl, hb⟩
                  have b9 : Below w8.heap.size w8 w9 := bthen (by (repeat' (first | exact Below.refl _ _ | refine Below.alloc ?_ (by first | omega | (simp; done) | (simp; omega)) _))) hb
                  have d9 : Below w.heap.size w w9 := bthen d8 b9
                  have R09 : w9.rangeAt (w.heap.size) 0 (pkt 2 0).toList := range_below b9 (by omega) R08
                  have R19 : w9.rangeAt (w.heap.size + 1) 0 (pkt 3 8).toList := range_below b9 (by omega) R18
                  have R29 : w9.rangeAt (w.heap.size + 1 + 1) 0 (pkt 4 0).toList := range_below b9 (by omega) R28
                  have q0_9 : w9.cell? ⟨w5.heap.size, 0, none⟩ = some (.int .u8 3) := (b9.cell (p := ⟨w5.heap.size, 0, none⟩) (by show w5.heap.size < w8.heap.size; omega)).trans q0_8
                  have q1_9 : w9.cell? ⟨w5.heap.size, 1, none⟩ = some (.int .u8 1) := (b9.cell (p := ⟨w5.heap.size, 1, none⟩) (by show w5.heap.size < w8.heap.size; omega)).trans q1_8
                  have q2_9 : w9.cell? ⟨w5.heap.size, 2, none⟩ = some (.int .u8 8) := (b9.cell (p := ⟨w5.heap.size, 2, none⟩) (by show w5.heap.size < w8.heap.size; omega)).trans q2_8
                  have zq_9 : w5.heap.size < w9.heap.size := Nat.lt_of_lt_of_le zq_8 b9.size
                  have r0_9 : w9.cell? ⟨w6.heap.size, 0, none⟩ = some (.int .u8 3) := (b9.cell (p := ⟨w6.heap.size, 0, none⟩) (by show w6.heap.size < w8.heap.size; omega)).trans r0_8
                  have r1_9 : w9.cell? ⟨w6.heap.size, 1, none⟩ = some (.int .u8 2) := (b9.cell (p := ⟨w6.heap.size, 1, none⟩) (by show w6.heap.size < w8.heap.size; omega)).trans r1_8
                  have r2_9 : w9.cell? ⟨w6.heap.size, 2, none⟩ = some (.int .u8 8) := (b9.cell (p := ⟨w6.heap.size, 2, none⟩) (by show w6.heap.size < w8.heap.size; omega)).trans r2_8
                  have zr_9 : w6.heap.size < w9.heap.size := Nat.lt_of_lt_of_le zr_8 b9.size
                  have zw_9 : w.heap.size + 1 + 1 < w9.heap.size := Nat.lt_of_lt_of_le zw_8 b9.size
                  clear R08
                  clear R18
                  clear R28
                  clear q0_8 q1_8 q2_8 zq_8
                  clear r0_8 r1_8 r2_8 zr_8
                  clear zw_8 b9 d8
                  clear hb
                  as_aux_lemma =>
                    go_wp2_with (first | (refine wpList_load_wide 29 _ rfl (by rfl) _ _ rfl (pkt 2 0) _ Tryd.underlying29 rfl (info_pkt _ _) ?_ ?_; · (repeat (first | with_reducible assumption | (refine range_new' _ _ _ _ ?_; first | rfl | (simp; done)) | refine World.rangeAt_alloc ?_ _))) | (refine wpList_load_wide 29 _ rfl (by rfl) _ _ rfl (pkt 3 8) _ Tryd.underlying29 rfl (info_pkt _ _) ?_ ?_; · (repeat (first | with_reducible assumption | (refine range_new' _ _ _ _ ?_; first | rfl | (simp; done)) | refine World.rangeAt_alloc ?_ _))) | (refine wpList_load_wide 29 _ rfl (by rfl) _ _ rfl (pkt 4 0) _ Tryd.underlying29 rfl (info_pkt _ _) ?_ ?_; · (repeat (first | with_reducible assumption | (refine range_new' _ _ _ _ ?_; first | rfl | (simp; done)) | refine World.rangeAt_alloc ?_ _))))
                    refine (open_is (pkt 4 0) 4 0 (0, 0, 0) false _ (fa_pkt 4 0 (by decide) (by decide)) ((HA.out.below d9).below (by (repeat' (first | exact Below.refl _ _ | refine Below.alloc ?_ (by first | omega | (simp; done) | (simp; omega)) _)))) rfl rfl).mono ?_
                    rintro e w10 ⟨rfl, hb⟩
                    have b10 : Below w9.heap.size w9 w10 := bthen (by (repeat' (first | exact Below.refl _ _ | refine Below.alloc ?_ (by first | omega | (simp; done) | (simp; omega)) _))) hb
                    have d10 : Below w.heap.size w w10 := bthen d9 b10
                    have R010 : w10.rangeAt (w.heap.size) 0 (pkt 2 0).toList := range_below b10 (by omega) R09
                    have R110 : w10.rangeAt (w.heap.size + 1) 0 (pkt 3 8).toList := range_below b10 (by omega) R19
                    have R210 : w10.rangeAt (w.heap.size + 1 + 1) 0 (pkt 4 0).toList := range_below b10 (by omega) R29
                    have q0_10 : w10.cell? ⟨w5.heap.size, 0, none⟩ = some (.int .u8 3) := (b10.cell (p := ⟨w5.heap.size, 0, none⟩) (by show w5.heap.size < w9.heap.size; omega)).trans q0_9
                    have q1_10 : w10.cell? ⟨w5.heap.size, 1, none⟩ = some (.int .u8 1) := (b10.cell (p := ⟨w5.heap.size, 1, none⟩) (by show w5.heap.size < w9.heap.size; omega)).trans q1_9
                    have q2_10 : w10.cell? ⟨w5.heap.size, 2, none⟩ = some (.int .u8 8) := (b10.cell (p := ⟨w5.heap.size, 2, none⟩) (by show w5.heap.size < w9.heap.size; omega)).trans q2_9
                    have zq_10 : w5.heap.size < w10.heap.size := Nat.lt_of_lt_of_le zq_9 b10.size
                    have r0_10 : w10.cell? ⟨w6.heap.size, 0, none⟩ = some (.int .u8 3) := (b10.cell (p := ⟨w6.heap.size, 0, none⟩) (by show w6.heap.size < w9.heap.size; omega)).trans r0_9
                    have r1_10 : w10.cell? ⟨w6.heap.size, 1, none⟩ = some (.int .u8 2) := (b10.cell (p := ⟨w6.heap.size, 1, none⟩) (by show w6.heap.size < w9.heap.size; omega)).trans r1_9
                    have r2_10 : w10.cell? ⟨w6.heap.size, 2, none⟩ = some (.int .u8 8) := (b10.cell (p := ⟨w6.heap.size, 2, none⟩) (by show w6.heap.size < w9.heap.size; omega)).trans r2_9
                    have zr_10 : w6.heap.size < w10.heap.size := Nat.lt_of_lt_of_le zr_9 b10.size
                    have zw_10 : w.heap.size + 1 + 1 < w10.heap.size := Nat.lt_of_lt_of_le zw_9 b10.size
                    clear R09
                    clear R19
                    clear R29
                    clear q0_9 q1_9 q2_9 zq_9
                    clear r0_9 r1_9 r2_9 zr_9
                    clear zw_9 b10 d9
                    clear hb
                    as_aux_lemma =>
                      go_wp2_with (first | (refine wpList_load_wide 29 _ rfl (by rfl) _ _ rfl (pkt 2 0) _ Tryd.underlying29 rfl (info_pkt _ _) ?_ ?_; · (repeat (first | with_reducible assumption | (refine range_new' _ _ _ _ ?_; first | rfl | (simp; done)) | refine World.rangeAt_alloc ?_ _))) | (refine wpList_load_wide 29 _ rfl (by rfl) _ _ rfl (pkt 3 8) _ Tryd.underlying29 rfl (info_pkt _ _) ?_ ?_; · (repeat (first | with_reducible assumption | (refine range_new' _ _ _ _ ?_; first | rfl | (simp; done)) | refine World.rangeAt_alloc ?_ _))) | (refine wpList_load_wide 29 _ rfl (by rfl) _ _ rfl (pkt 4 0) _ Tryd.underlying29 rfl (info_pkt _ _) ?_ ?_; · (repeat (first | with_reducible assumption | (refine range_new' _ _ _ _ ?_; first | rfl | (simp; done)) | refine World.rangeAt_alloc ?_ _))))
                      refine (open_is (pkt 3 10) 3 10 (0, 0, 0) false _ (fa_pkt 3 10 (by decide) (by decide)) ((HA.out.below d10).below (by (repeat' (first | exact Below.refl _ _ | refine Below.alloc ?_ (by first | omega | (simp; done) | (simp; omega)) _)))) rfl rfl).mono ?_
                      rintro e w11 ⟨rfl, hb⟩
                      have b11 : Below w10.heap.size w10 w11 := bthen (by (repeat' (first | exact Below.refl _ _ | refine Below.alloc ?_ (by first | omega | (simp; done) | (simp; omega)) _))) hb
                      have d11 : Below w.heap.size w w11 := bthen d10 b11
                      have R011 : w11.rangeAt (w.heap.size) 0 (pkt 2 0).toList := range_below b11 (by omega) R010
                      have R111 : w11.rangeAt (w.heap.size + 1) 0 (pkt 3 8).toList := range_below b11 (by omega) R110
                      have R211 : w11.rangeAt (w.heap.size + 1 + 1) 0 (pkt 4 0).toList := range_below b11 (by omega) R210
                      have q0_11 : w11.cell? ⟨w5.heap.size, 0, none⟩ = some (.int .u8 3) := (b11.cell (p := ⟨w5.heap.size, 0, none⟩) (by show w5.heap.size < w10.heap.size; omega)).trans q0_10
                      have q1_11 : w11.cell? ⟨w5.heap.size, 1, none⟩ = some (.int .u8 1) := (b11.cell (p := ⟨w5.heap.size, 1, none⟩) (by show w5.heap.size < w10.heap.size; omega)).trans q1_10
                      have q2_11 : w11.cell? ⟨w5.heap.size, 2, none⟩ = some (.int .u8 8) := (b11.cell (p := ⟨w5.heap.size, 2, none⟩) (by show w5.heap.size < w10.heap.size; omega)).trans q2_10
                      have zq_11 : w5.heap.size < w11.heap.size := Nat.lt_of_lt_of_le zq_10 b11.size
                      have r0_11 : w11.cell? ⟨w6.heap.size, 0, none⟩ = some (.int .u8 3) := (b11.cell (p := ⟨w6.heap.size, 0, none⟩) (by show w6.heap.size < w10.heap.size; omega)).trans r0_10
                      have r1_11 : w11.cell? ⟨w6.heap.size, 1, none⟩ = some (.int .u8 2) := (b11.cell (p := ⟨w6.heap.size, 1, none⟩) (by show w6.heap.size < w10.heap.size; omega)).trans r1_10
                      have r2_11 : w11.cell? ⟨w6.heap.size, 2, none⟩ = some (.int .u8 8) := (b11.cell (p := ⟨w6.heap.size, 2, none⟩) (by show w6.heap.size < w10.heap.size; omega)).trans r2_10
                      have zr_11 : w6.heap.size < w11.heap.size := Nat.lt_of_lt_of_le zr_10 b11.size
                      have zw_11 : w.heap.size + 1 + 1 < w11.heap.size := Nat.lt_of_lt_of_le zw_10 b11.size
                      clear R010
                      clear R110
                      clear R210
                      clear q0_10 q1_10 q2_10 zq_10
                      clear r0_10 r1_10 r2_10 zr_10
                      clear zw_10 b11 d10
                      clear hb
                      as_aux_lemma =>
                        go_wp2_with fail
                        go_ret
                        exact ⟨rfl, by (repeat' (first | with_reducible exact d11 | refine Below.alloc ?_ (by first | omega | (simp; done) | (simp; omega)) _))⟩

end Go.Proofs.YtjmcpgagbjmfgaaDoor
