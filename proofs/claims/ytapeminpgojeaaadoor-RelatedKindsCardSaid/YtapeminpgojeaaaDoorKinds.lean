/-
  The walk of RelatedKinds: flows of TCP, UDP and ICMP have kinds in both directions, and no others have; an error can belong to a flow just if the kind that it quotes is one of those.
-/
import Derived.Test.YtapeminpgojeaaaDoorAwake
import Derived.Deep.DeepCutAuto
namespace Go.Proofs.YtapeminpgojeaaaDoor
open Go.RowKit
set_option linter.unusedVariables false
set_option linter.unusedSimpArgs false

theorem rcell {W : World} {b j : Nat} {F : Array Value} {v : Value} (h : W.rangeAt b 0 F.toList) (hj : F[j]? = some v) : W.cell? ⟨b, j, none⟩ = some v := by
  have := h j v (by rw [Array.getElem?_toList]; exact hj)
  rwa [Nat.zero_add] at this
theorem fa_turned {F : Array Value} {dst kind typ qp qs qd qsp qdp qk : Int} (h : Fa F dst kind typ qp qs qd qsp qdp qk) :
    ∃ F1 : Array Value, Fa F1 qs 5 11 qp qs qd qsp qdp qk ∧ F1.toList = ((F.toList.set 5 (.int .u8 5)).set 7 (.int .u8 11)).set 2 (.int .u32 qs) := by
  obtain ⟨hs, hone, h2, h5, h7, h13, h14, h15, h16, h17, h18, b1, b2, b3, b4, b5, b6, b7, b8, b9⟩ := h
  obtain ⟨l⟩ := F
  match l, hs with
  | [c0, c1, c2, c3, c4, c5, c6, c7, c8, c9, c10, c11, c12, c13, c14, c15, c16, c17, c18], _ =>
    simp at hone h2 h5 h7 h13 h14 h15 h16 h17 h18
    refine ⟨#[c0, c1, .int .u32 qs, c3, c4, .int .u8 5, c6, .int .u8 11, c8, c9, c10, c11, c12, c13, c14, c15, c16, c17, c18], ⟨rfl, ?_, rfl, rfl, rfl, ?_, ?_, ?_, ?_, ?_, ?_, by decide, by decide, b3, b4, b6, b6, b7, b8, b9⟩, rfl⟩
    · simp [show ∀ k n, (Value.int k n).oneCell' = true from fun _ _ => rfl, hone]
    all_goals simp [h13, h14, h15, h16, h17, h18]
theorem kinds_cases (p dir : Int) (hd : 0 ≤ dir) : (1 < dir ∧ kok p dir = false ∧ kd p dir = 0) ∨ (dir ≤ 1 ∧ (p = 6 ∨ p = 17 ∨ p = 1) ∧ kok p dir = true ∧ 1 ≤ kd p dir ∧ kd p dir ≤ 4) ∨ (dir ≤ 1 ∧ (p ≠ 6 ∧ p ≠ 17 ∧ p ≠ 1) ∧ kok p dir = false ∧ kd p dir = 0) := by
  by_cases h : 1 < dir
  · left
    refine ⟨h, ?_, ?_⟩
    · unfold kok; rw [decide_eq_false (by omega), Bool.and_false]
    · unfold kd; rw [if_neg (by omega), if_neg (by omega)]
  · right
    have hd' : dir = 0 ∨ dir = 1 := by omega
    by_cases hp : p = 6 ∨ p = 17 ∨ p = 1
    · left
      refine ⟨by omega, hp, ?_⟩
      rcases hp with rfl | rfl | rfl <;> rcases hd' with rfl | rfl <;> decide
    · right
      have h6 : p ≠ 6 := by omega
      have h17 : p ≠ 17 := by omega
      have h1 : p ≠ 1 := by omega
      refine ⟨by omega, ⟨h6, h17, h1⟩, ?_, ?_⟩
      · simp [kok, known, h6, h17, h1]
      · simp [kd, ko, kr, h6, h17, h1]
theorem known_pos (p : Int) : (known p = true ∧ 0 < ko p) ∨ (known p = false ∧ ko p = 0 ∧ kr p = 0) := by
  by_cases h6 : p = 6
  · subst h6; left; decide
  by_cases h17 : p = 17
  · subst h17; left; decide
  by_cases h1 : p = 1
  · subst h1; left; decide
  right
  simp [known, ko, kr, h6, h17, h1]

set_option maxRecDepth 100000 in
set_option maxHeartbeats 16000000 in
theorem relatedKinds_walk (p s d sp dp : Int) (dir : Int) (F : Array Value) (dst kind typ qp qs qd qsp qdp qk : Int) (w : World) (hT : Tabs w)
    (hx : (0 ≤ p ∧ p ≤ 255) ∧ (0 ≤ s ∧ s ≤ 4294967295) ∧ (0 ≤ d ∧ d ≤ 4294967295) ∧ (0 ≤ sp ∧ sp ≤ 65535) ∧ (0 ≤ dp ∧ dp ≤ 65535)) (hd : 0 ≤ dir ∧ dir ≤ 255) (h : Fa F dst kind typ qp qs qd qsp qdp qk) :
    Calls Tryd.prog 6 #[.agg #[.int .u8 p, .int .u32 s, .int .u32 d, .int .u16 sp, .int .u16 dp], .int .u8 dir, .agg F] w fun e w' => e = .returned (.bool true) ∧ Below w.heap.size w w' := by
  have H1 := Lib.hid (fun W (hW : Tabs W) => kind_below p s d sp dp dir W hx.1 hd hW)
  have H2 := Lib.hid (fun W (hW : Tabs W) => kind_b0 qp qs qd qsp qdp W h.bp hW)
  have H3 := Lib.hid (fun W (hW : Tabs W) => kind_b1 qp qs qd qsp qdp W h.bp hW)
  have H4 := Lib.hid (fun W (hW : Tabs W) => lookup_below F dst kind typ qp qs qd qsp qdp qk W h hW)
  have H7 := Lib.hid (fun W (hW : Tabs W) => heard_any typ W h.bt hW)
  obtain ⟨F1, hF1, hF1l⟩ := fa_turned h
  have H5 := Lib.hid (fun W (hW : Tabs W) => lookup_below F1 qs 5 11 qp qs qd qsp qdp qk W hF1 hW)
  have HL := Lib.hid hF1l
  have hsz : (Tryd.prog.info? 29).map (·.size) = some F.toList.length := by rw [info29, Array.length_toList, h.size]
  have Hsz := Lib.hid hsz
  have hsz1 : (Tryd.prog.info? 29).map (·.size) = some F1.toList.length := by rw [info29, Array.length_toList, hF1.size]
  have Hsz1 := Lib.hid hsz1
  have HF := Lib.hid h
  have HT := Lib.hid hT
  have HC := Lib.hid (kinds_cases p dir hd.1)
  have HK := Lib.hid (known_pos qp)
  have hcan : can dst kind typ qp qs qk = (known qp && (kind == 5 && (hrd typ && (dst == qs && (qk == ko qp || qk == kr qp))))) := rfl
  have hcan1 : can qs 5 11 qp qs qk = (known qp && (qk == ko qp || qk == kr qp)) := by simp [can, hrd]
  have HCAN := Lib.hid hcan
  have HCAN1 := Lib.hid hcan1
  clear h hF1 hF1l hsz hsz1 hT hcan hcan1 hx
  generalize kd p dir = kv at *
  generalize kok p dir = okv at *
  generalize known qp = kn at *
  generalize ko qp = x at *
  generalize kr qp = y at *
  generalize hrd typ = hh at *
  generalize can dst kind typ qp qs qk = c at *
  generalize can qs 5 11 qp qs qk = c1 at *
  go_enter Tryd.func6, Tryd.ntmps6
  go_wp2_with fail
  refine (awake_any _ (HT.out.below (by (repeat' (first | exact Below.refl _ _ | refine Below.setCell ?_ (by first | omega | (simp; done) | (simp; omega)) _ | refine Below.alloc ?_ (by first | omega | (simp; done) | (simp; omega)) _))))).mono ?_
  rintro e w1 ⟨rfl, hb⟩
  have bk_1 : w1.heap[w.heap.size + 1]? = some (.cells F 29 (0, 0)) := blk_below hb (by have := heap_alloc_last (w.alloc (.cells #[.int .u8 p, .int .u32 s, .int .u32 d, .int .u16 sp, .int .u16 dp] 25)) (.cells F 29); simpa using this)
  have b1 : Below w.heap.size w w1 := bthen (by (repeat' (first | exact Below.refl _ _ | refine Below.setCell ?_ (by first | omega | (simp; done) | (simp; omega)) _ | refine Below.alloc ?_ (by first | omega | (simp; done) | (simp; omega)) _))) hb
  have d1 : Below w.heap.size w w1 := b1
  have k1 : w.heap.size ≤ w1.heap.size := d1.size
  have R_1 : w1.rangeAt (w.heap.size + 1) 0 (F).toList := range_below hb (by first | (simp; done) | (simp; omega)) (by (repeat (first | with_reducible assumption | (refine range_new' _ _ _ _ ?_; first | rfl | (simp; done)) | refine World.rangeAt_alloc ?_ _)))
  have zR_1 : w.heap.size + 1 < w1.heap.size := by have := hb.size; simp at this; omega
  have x0_1 : w1.cell? ⟨w.heap.size, 0, none⟩ = some (.int .u8 p) := (hb.cell (p := ⟨w.heap.size, 0, none⟩) (by first | (simp; done) | (simp; omega))).trans (by simp [go_sem])
  have x1_1 : w1.cell? ⟨w.heap.size, 1, none⟩ = some (.int .u32 s) := (hb.cell (p := ⟨w.heap.size, 1, none⟩) (by first | (simp; done) | (simp; omega))).trans (by simp [go_sem])
  have x2_1 : w1.cell? ⟨w.heap.size, 2, none⟩ = some (.int .u32 d) := (hb.cell (p := ⟨w.heap.size, 2, none⟩) (by first | (simp; done) | (simp; omega))).trans (by simp [go_sem])
  have x3_1 : w1.cell? ⟨w.heap.size, 3, none⟩ = some (.int .u16 sp) := (hb.cell (p := ⟨w.heap.size, 3, none⟩) (by first | (simp; done) | (simp; omega))).trans (by simp [go_sem])
  have x4_1 : w1.cell? ⟨w.heap.size, 4, none⟩ = some (.int .u16 dp) := (hb.cell (p := ⟨w.heap.size, 4, none⟩) (by first | (simp; done) | (simp; omega))).trans (by simp [go_sem])
  have zx_1 : w.heap.size < w1.heap.size := by have := hb.size; simp at this; omega
  clear hb
  go_wp2_with fail
  refine (H1.out _ (HT.out.below (by (repeat' (first | with_reducible exact d1 | refine Below.setCell ?_ (by first | omega | (simp; done) | (simp; omega)) _ | refine Below.alloc ?_ (by first | omega | (simp; done) | (simp; omega)) _))))).mono ?_
  rintro e w2 ⟨rfl, hb⟩
  have bk_2 : w2.heap[w.heap.size + 1]? = some (.cells F 29 (0, 0)) := blk_below hb (by (repeat (first | exact bk_1 | refine blk_alloc ?_ _)))
  clear bk_1
  have b2 : Below w1.heap.size w1 w2 := bthen (by (repeat' (first | exact Below.refl _ _ | refine Below.setCell ?_ (by first | omega | (simp; done) | (simp; omega)) _ | refine Below.alloc ?_ (by first | omega | (simp; done) | (simp; omega)) _))) hb
  have d2 : Below w.heap.size w w2 := bthen d1 b2
  have k2 : w.heap.size ≤ w2.heap.size := d2.size
  have R_2 : w2.rangeAt (w.heap.size + 1) 0 (F).toList := range_below b2 (by omega) R_1
  have zR_2 : w.heap.size + 1 < w2.heap.size := Nat.lt_of_lt_of_le zR_1 b2.size
  have x0_2 : w2.cell? ⟨w.heap.size, 0, none⟩ = some (.int .u8 p) := (b2.cell (p := ⟨w.heap.size, 0, none⟩) (by show w.heap.size < w1.heap.size; omega)).trans x0_1
  have x1_2 : w2.cell? ⟨w.heap.size, 1, none⟩ = some (.int .u32 s) := (b2.cell (p := ⟨w.heap.size, 1, none⟩) (by show w.heap.size < w1.heap.size; omega)).trans x1_1
  have x2_2 : w2.cell? ⟨w.heap.size, 2, none⟩ = some (.int .u32 d) := (b2.cell (p := ⟨w.heap.size, 2, none⟩) (by show w.heap.size < w1.heap.size; omega)).trans x2_1
  have x3_2 : w2.cell? ⟨w.heap.size, 3, none⟩ = some (.int .u16 sp) := (b2.cell (p := ⟨w.heap.size, 3, none⟩) (by show w.heap.size < w1.heap.size; omega)).trans x3_1
  have x4_2 : w2.cell? ⟨w.heap.size, 4, none⟩ = some (.int .u16 dp) := (b2.cell (p := ⟨w.heap.size, 4, none⟩) (by show w.heap.size < w1.heap.size; omega)).trans x4_1
  have zx_2 : w.heap.size < w2.heap.size := Nat.lt_of_lt_of_le zx_1 b2.size
  clear hb b2 d1 k1 R_1 zR_1 x0_1 x1_1 x2_1 x3_1 x4_1 zx_1
  go_upto_region 4 with fail
  go_cut [62] (fun s62 wx => s62 = .bool false ∧ wx = w2)
  case first =>
    rcases HC.out with ⟨h1, rfl, rfl⟩ | ⟨h1, h2, rfl, h3, h4⟩ | ⟨h1, ⟨h6, h17, h11⟩, rfl, rfl⟩
    · have e1 : decide (dir < 2) = false := decide_eq_false (by omega)
      clear h1 HC
      go_wp2_with fail
      go_meet
      exact ⟨rfl, rfl⟩
    · have e1 : decide (dir < 2) = true := decide_eq_true (by omega)
      have e2 : decide (kv < 1) = false := decide_eq_false (by omega)
      have e3 : decide (4 < kv) = false := decide_eq_false (by omega)
      clear h1 h3 h4 HC
      rcases h2 with rfl | rfl | rfl
      all_goals
        go_wp2_with fail
        go_meet
        exact ⟨rfl, rfl⟩
    · have e1 : decide (dir < 2) = true := decide_eq_true (by omega)
      have g6 : (p == 6) = false := by simpa using h6
      have g17 : (p == 17) = false := by simpa using h17
      have g1 : (p == 1) = false := by simpa using h11
      clear h1 h6 h17 h11 HC
      go_wp2_with fail
      go_meet
      exact ⟨rfl, rfl⟩
  case rest =>
    obtain ⟨rfl, hwc⟩ := hcut
    have hwc' := hwc.symm
    subst hwc'
    clear hwc
    clear x0_2 x1_2 x2_2 x3_2 x4_2 zx_2
    have f13 := rcell R_2 HF.out.c13
    have f14 := rcell R_2 HF.out.c14
    have f15 := rcell R_2 HF.out.c15
    have f16 := rcell R_2 HF.out.c16
    have f17 := rcell R_2 HF.out.c17
    go_wp2_with fail
    refine (H2.out _ (HT.out.below (by (repeat' (first | with_reducible exact d2 | refine Below.setCell ?_ (by first | omega | (simp; done) | (simp; omega)) _ | refine Below.alloc ?_ (by first | omega | (simp; done) | (simp; omega)) _))))).mono ?_
    rintro e w3 ⟨rfl, hb⟩
    have bk_3 : w3.heap[w.heap.size + 1]? = some (.cells F 29 (0, 0)) := blk_below hb (by (repeat (first | exact bk_2 | refine blk_alloc ?_ _)))
    clear bk_2
    have b3 : Below w2.heap.size w2 w3 := bthen (by (repeat' (first | exact Below.refl _ _ | refine Below.setCell ?_ (by first | omega | (simp; done) | (simp; omega)) _ | refine Below.alloc ?_ (by first | omega | (simp; done) | (simp; omega)) _))) hb
    have d3 : Below w.heap.size w w3 := bthen d2 b3
    have k3 : w.heap.size ≤ w3.heap.size := d3.size
    have R_3 : w3.rangeAt (w.heap.size + 1) 0 (F).toList := range_below b3 (by omega) R_2
    have zR_3 : w.heap.size + 1 < w3.heap.size := Nat.lt_of_lt_of_le zR_2 b3.size
    clear hb b3 d2 k2 R_2 zR_2
    clear f13 f14 f15 f16 f17
    have f13 := rcell R_3 HF.out.c13
    have f14 := rcell R_3 HF.out.c14
    have f15 := rcell R_3 HF.out.c15
    have f16 := rcell R_3 HF.out.c16
    have f17 := rcell R_3 HF.out.c17
    go_wp2_with fail
    refine (H3.out _ (HT.out.below (by (repeat' (first | with_reducible exact d3 | refine Below.setCell ?_ (by first | omega | (simp; done) | (simp; omega)) _ | refine Below.alloc ?_ (by first | omega | (simp; done) | (simp; omega)) _))))).mono ?_
    rintro e w4 ⟨rfl, hb⟩
    have bk_4 : w4.heap[w.heap.size + 1]? = some (.cells F 29 (0, 0)) := blk_below hb (by (repeat (first | exact bk_3 | refine blk_alloc ?_ _)))
    clear bk_3
    have b4 : Below w3.heap.size w3 w4 := bthen (by (repeat' (first | exact Below.refl _ _ | refine Below.setCell ?_ (by first | omega | (simp; done) | (simp; omega)) _ | refine Below.alloc ?_ (by first | omega | (simp; done) | (simp; omega)) _))) hb
    have d4 : Below w.heap.size w w4 := bthen d3 b4
    have k4 : w.heap.size ≤ w4.heap.size := d4.size
    have R_4 : w4.rangeAt (w.heap.size + 1) 0 (F).toList := range_below b4 (by omega) R_3
    have zR_4 : w.heap.size + 1 < w4.heap.size := Nat.lt_of_lt_of_le zR_3 b4.size
    clear hb b4 d3 k3 R_3 zR_3
    clear f13 f14 f15 f16 f17
    go_wp2_with (refine wpList_load_wide 29 _ rfl (by rfl) _ _ rfl F _ Tryd.underlying29 rfl Hsz.out ?_ ?_; · (repeat (first | with_reducible exact R_4 | refine World.rangeAt_alloc ?_ _)))
    refine (H4.out _ (HT.out.below (by (repeat' (first | with_reducible exact d4 | refine Below.setCell ?_ (by first | omega | (simp; done) | (simp; omega)) _ | refine Below.alloc ?_ (by first | omega | (simp; done) | (simp; omega)) _))))).mono ?_
    rintro e w5 ⟨rfl, hb⟩
    have bk_5 : w5.heap[w.heap.size + 1]? = some (.cells F 29 (0, 0)) := blk_below hb (by (repeat (first | exact bk_4 | refine blk_alloc ?_ _)))
    clear bk_4
    have b5 : Below w4.heap.size w4 w5 := bthen (by (repeat' (first | exact Below.refl _ _ | refine Below.setCell ?_ (by first | omega | (simp; done) | (simp; omega)) _ | refine Below.alloc ?_ (by first | omega | (simp; done) | (simp; omega)) _))) hb
    have d5 : Below w.heap.size w w5 := bthen d4 b5
    have k5 : w.heap.size ≤ w5.heap.size := d5.size
    have R_5 : w5.rangeAt (w.heap.size + 1) 0 (F).toList := range_below b5 (by omega) R_4
    have zR_5 : w.heap.size + 1 < w5.heap.size := Nat.lt_of_lt_of_le zR_4 b5.size
    clear hb b5 d4 k4 R_4 zR_4
    have f2 := rcell R_5 HF.out.c2
    have f5 := rcell R_5 HF.out.c5
    have f7 := rcell R_5 HF.out.c7
    have f13 := rcell R_5 HF.out.c13
    have f14 := rcell R_5 HF.out.c14
    have f15 := rcell R_5 HF.out.c15
    have f16 := rcell R_5 HF.out.c16
    have f17 := rcell R_5 HF.out.c17
    have f18 := rcell R_5 HF.out.c18
    have fr2 := blk_free bk_5 2
    have fr5 := blk_free bk_5 5
    have fr7 := blk_free bk_5 7
    cases c
    · have hcan1 := HCAN1.out
      have hk := HK.out
      have G : (((w5.setCell ⟨w.heap.size + 1, 5, none⟩ (.int .u8 5)).setCell ⟨w.heap.size + 1, 7, none⟩ (.int .u8 11)).setCell ⟨w.heap.size + 1, 2, none⟩ (.int .u32 qs)).rangeAt (w.heap.size + 1) 0 F1.toList := by
        rw [HL.out]
        exact range_put (range_put (range_put R_5 5 _ fr5) 7 _ (by rw [World.frozen?_setCell]; exact fr7)) 2 _ (by rw [World.frozen?_setCell, World.frozen?_setCell]; exact fr2)
      have dG : Below w.heap.size w (((w5.setCell ⟨w.heap.size + 1, 5, none⟩ (.int .u8 5)).setCell ⟨w.heap.size + 1, 7, none⟩ (.int .u8 11)).setCell ⟨w.heap.size + 1, 2, none⟩ (.int .u32 qs)) := by (repeat' (first | with_reducible exact d5 | refine Below.setCell ?_ (by first | omega | (simp; done) | (simp; omega)) _ | refine Below.alloc ?_ (by first | omega | (simp; done) | (simp; omega)) _))
      have hzG : (((w5.setCell ⟨w.heap.size + 1, 5, none⟩ (.int .u8 5)).setCell ⟨w.heap.size + 1, 7, none⟩ (.int .u8 11)).setCell ⟨w.heap.size + 1, 2, none⟩ (.int .u32 qs)).heap.size = w5.heap.size := by simp [World.setCell]
      simp only [pk, Bool.false_eq_true, if_false]
      have E := fun V => (key_eql 0 0 0 0 0 0 0 0 0 0 V).trans (by rw [eqK_self])
      have hk1 : decide (0 < x) = kn := by
        rcases hk with ⟨h1, h2⟩ | ⟨h1, h2, _⟩
        · rw [h1]; exact decide_eq_true h2
        · rw [h1]; exact decide_eq_false (by omega)
      have HC1 := Lib.hid hcan1
      have HE := Lib.hid E
      clear hk hcan1 E HK HCAN HCAN1 R_5
      have HK1 := Lib.hid hk1
      clear hk1
      go_wp2_with (refine wpList_load_wide 29 _ rfl (by rfl) _ _ rfl F1 _ Tryd.underlying29 rfl Hsz1.out ?_ ?_; · (repeat (first | with_reducible exact G | refine World.rangeAt_alloc ?_ _)))
      refine (H5.out _ (HT.out.below (by (repeat' (first | with_reducible exact dG | refine Below.setCell ?_ (by first | omega | (simp; done) | (simp; omega)) _ | refine Below.alloc ?_ (by first | omega | (simp; done) | (simp; omega)) _))))).mono ?_
      rintro e w6 ⟨rfl, hb⟩
      have b6 : Below w.heap.size w w6 := bthen (by (repeat' (first | with_reducible exact dG | refine Below.setCell ?_ (by first | omega | (simp; done) | (simp; omega)) _ | refine Below.alloc ?_ (by first | omega | (simp; done) | (simp; omega)) _))) hb
      have k0 : w6.cell? ⟨w5.heap.size, 0, none⟩ = some (.int .u8 0) := (hb.cell (p := ⟨w5.heap.size, 0, none⟩) (by simp [World.setCell])).trans (by simp [go_sem])
      have k1 : w6.cell? ⟨w5.heap.size, 1, none⟩ = some (.int .u32 0) := (hb.cell (p := ⟨w5.heap.size, 1, none⟩) (by simp [World.setCell])).trans (by simp [go_sem])
      have k2 : w6.cell? ⟨w5.heap.size, 2, none⟩ = some (.int .u32 0) := (hb.cell (p := ⟨w5.heap.size, 2, none⟩) (by simp [World.setCell])).trans (by simp [go_sem])
      have k3 : w6.cell? ⟨w5.heap.size, 3, none⟩ = some (.int .u16 0) := (hb.cell (p := ⟨w5.heap.size, 3, none⟩) (by simp [World.setCell])).trans (by simp [go_sem])
      have k4 : w6.cell? ⟨w5.heap.size, 4, none⟩ = some (.int .u16 0) := (hb.cell (p := ⟨w5.heap.size, 4, none⟩) (by simp [World.setCell])).trans (by simp [go_sem])
      have kz : w5.heap.size < w6.heap.size := by have := hb.size; simp [World.setCell] at this; omega
      have kq : w6.cell? ⟨w.heap.size + 1, 18, none⟩ = some (.int .u8 qk) := (hb.cell (p := ⟨w.heap.size + 1, 18, none⟩) (by simp [World.setCell]; omega)).trans (by simp [go_sem, f18, f2, f5, f7, zR_5])
      have kz' : w.heap.size + 1 < w6.heap.size := by omega
      clear hb f2 f5 f7 f13 f14 f15 f16 f17 f18 fr2 fr5 fr7 G dG hzG
      have E := HE.out
      have hk1 := HK1.out
      cases kn
      · obtain rfl : c1 = false := by rw [HC1.out]; rfl
        clear HE HK1 HC1
        go_wp2_with fail
        go_ret
        exact ⟨rfl, by (repeat' (first | with_reducible exact b6 | refine Below.setCell ?_ (by first | omega | (simp; done) | (simp; omega)) _ | refine Below.alloc ?_ (by first | omega | (simp; done) | (simp; omega)) _))⟩
      · cases e1 : qk == x
        · cases e2 : qk == y
          · obtain rfl : c1 = false := by rw [HC1.out, e1, e2]; rfl
            clear HE HK1 HC1
            go_wp2_with fail
            go_ret
            exact ⟨rfl, by (repeat' (first | with_reducible exact b6 | refine Below.setCell ?_ (by first | omega | (simp; done) | (simp; omega)) _ | refine Below.alloc ?_ (by first | omega | (simp; done) | (simp; omega)) _))⟩
          · obtain rfl : c1 = true := by rw [HC1.out, e1, e2]; rfl
            clear HE HK1 HC1
            go_wp2_with fail
            go_ret
            exact ⟨rfl, by (repeat' (first | with_reducible exact b6 | refine Below.setCell ?_ (by first | omega | (simp; done) | (simp; omega)) _ | refine Below.alloc ?_ (by first | omega | (simp; done) | (simp; omega)) _))⟩
        · obtain rfl : c1 = true := by rw [HC1.out, e1]; rfl
          clear HE HK1 HC1
          go_wp2_with fail
          go_ret
          exact ⟨rfl, by (repeat' (first | with_reducible exact b6 | refine Below.setCell ?_ (by first | omega | (simp; done) | (simp; omega)) _ | refine Below.alloc ?_ (by first | omega | (simp; done) | (simp; omega)) _))⟩
    · have hcan := HCAN.out
      have hk := HK.out
      have hall : kn = true ∧ kind = 5 ∧ hh = true ∧ dst = qs ∧ (qk = x ∨ qk = y) := by
        have := hcan.symm
        simpa using this
      obtain ⟨rfl, rfl, rfl, rfl, hq⟩ := hall
      have hk1 : decide (0 < x) = true := by
        rcases hk with ⟨_, h2⟩ | ⟨h1, _⟩
        · exact decide_eq_true h2
        · cases h1
      simp only [pk, if_true]
      have E := fun V => (key_eql qp dst qd qsp qdp qp dst qd qsp qdp V).trans (by rw [eqK_self])
      have hq' : ((qk == x) = true) ∨ ((qk == x) = false ∧ (qk == y) = true) := by
        rcases hq with rfl | rfl
        · left; simp
        · cases e1 : qk == x
          · right; exact ⟨rfl, by simp⟩
          · left; rfl
      clear hk hcan hq HK HCAN HCAN1 R_5 bk_5 fr2 fr5 fr7 HC
      rcases hq' with e1 | ⟨e1, e2⟩
      all_goals
        go_wp2_with fail
        refine (H7.out _ (HT.out.below (by (repeat' (first | with_reducible exact d5 | refine Below.setCell ?_ (by first | omega | (simp; done) | (simp; omega)) _ | refine Below.alloc ?_ (by first | omega | (simp; done) | (simp; omega)) _))))).mono ?_
        rintro e w' ⟨rfl, rfl⟩
        go_wp2_with fail
        go_ret
        exact ⟨rfl, (by (repeat' (first | with_reducible exact d5 | refine Below.setCell ?_ (by first | omega | (simp; done) | (simp; omega)) _ | refine Below.alloc ?_ (by first | omega | (simp; done) | (simp; omega)) _)))⟩

end Go.Proofs.YtapeminpgojeaaaDoor
