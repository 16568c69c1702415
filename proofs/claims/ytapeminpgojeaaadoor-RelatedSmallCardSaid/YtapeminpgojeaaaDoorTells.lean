/-
  The contract of the laws' own 'tells': it returns true, and writes nothing that was there. Conditions: the numbers lie in their types' ranges, and the two package maps lie as the program's text lays them.
-/
import Derived.Test.YtapeminpgojeaaaDoorRefQ
namespace Go.Proofs.YtapeminpgojeaaaDoor
open Go.RowKit
set_option linter.unusedVariables false
set_option linter.unusedSimpArgs false

theorem kc' {W W' : World} (hb : Below W.heap.size W W') {a : Addr} {v : Value} (h : W.cell? a = some v) : W'.cell? a = some v := kc hb h
theorem rkind_below (p s d sp dp dir : Int) (w : World) (hd : 0 ≤ dir ∧ dir ≤ 255) :
    Calls Tryd.prog 23 #[.agg #[.int .u8 p, .int .u32 s, .int .u32 d, .int .u16 sp, .int .u16 dp], .int .u8 dir] w fun e w' => e = .returned (.tuple #[.int .u8 (kd p dir), .bool (kok p dir)]) ∧ Below w.heap.size w w' :=
  (rkind_any p s d sp dp dir w hd).mono fun e w' ⟨h1, h2⟩ => ⟨h1, by subst h2; exact (Below.refl _ _).alloc (Nat.le_refl _) _⟩
theorem eqK_self (p s d sp dp : Int) : eqK p s d sp dp p s d sp dp = true := by simp [eqK]

set_option maxRecDepth 100000 in
set_option maxHeartbeats 8000000 in
theorem tells_any (F : Array Value) (p s d sp dp side dst kind typ qp qs qd qsp qdp qk src n : Int) (w : World) (h : Fa F dst kind typ qp qs qd qsp qdp qk) (hT : Tabs w) (hp : 0 ≤ p ∧ p ≤ 255) (hs : 0 ≤ side ∧ side ≤ 255) (hr : 0 ≤ src ∧ src ≤ 255) (hn : 0 ≤ n ∧ n ≤ 255) :
    Calls Tryd.prog 11 #[.agg #[.int .u8 p, .int .u32 s, .int .u32 d, .int .u16 sp, .int .u16 dp, .int .u8 side], .agg F, .int .u8 src, .int .u8 n] w fun e w' => e = .returned (.bool true) ∧ Below w.heap.size w w' := by
  have H1 := Lib.hid (fun W (hW : Tabs W) => kind_below p s d sp dp n W hp hn hW)
  have H2 := Lib.hid (fun W => rkind_below p s d sp dp n W hn)
  have H3 := Lib.hid (fun W (hW : Tabs W) => lookup_below F dst kind typ qp qs qd qsp qdp qk W h hW)
  have H4 := Lib.hid (fun W => rlookup_any F dst kind typ qp qs qd qsp qdp qk W h)
  have H5 := Lib.hid (fun W (hW : Tabs W) => quotes_any F p s d sp dp side dst kind typ qp qs qd qsp qdp qk src W h hW hp hs.1 hr.1)
  have H6 := Lib.hid (fun W => rquotes_any F p s d sp dp side dst kind typ qp qs qd qsp qdp qk src W h hs.1 hr.1)
  have H7 := Lib.hid (fun W (hW : Tabs W) => heard_any n W hn hW)
  have hsz : (Tryd.prog.info? 29).map (·.size) = some F.toList.length := by rw [info29, Array.length_toList, h.size]
  have Hsz := Lib.hid hsz
  have HT := Lib.hid hT
  clear hsz h hT
  generalize quo p s d sp dp side dst kind typ qp qs qd qsp qdp qk src = Q at *
  obtain ⟨Q1, Q2⟩ := Q
  generalize can dst kind typ qp qs qk = c at *
  generalize pk c qp = l0 at *
  generalize pk c qs = l1 at *
  generalize pk c qd = l2 at *
  generalize pk c qsp = l3 at *
  generalize pk c qdp = l4 at *
  generalize kd p n = kv at *
  generalize kok p n = ko' at *
  have E := fun V => (key_eql l0 l1 l2 l3 l4 l0 l1 l2 l3 l4 V).trans (by rw [eqK_self])
  have HE := Lib.hid E
  clear E
  go_enter Tryd.func11, Tryd.ntmps11
  go_wp2_with fail
  refine (H1.out _ (HT.out.below (by (repeat' (first | exact Below.refl _ _ | refine Below.setCell ?_ (by first | omega | (simp; done) | (simp; omega)) _ | refine Below.alloc ?_ (by first | omega | (simp; done) | (simp; omega)) _))))).mono ?_
  rintro e w1 ⟨rfl, hb⟩
  have b1 : Below w.heap.size w w1 := bthen (by (repeat' (first | exact Below.refl _ _ | refine Below.setCell ?_ (by first | omega | (simp; done) | (simp; omega)) _ | refine Below.alloc ?_ (by first | omega | (simp; done) | (simp; omega)) _))) hb
  have d1 : Below w.heap.size w w1 := b1
  have k1 : w.heap.size ≤ w1.heap.size := d1.size
  have R_1 : w1.rangeAt (w.heap.size + 1) 0 (F).toList := range_below hb (by first | (simp; done) | (simp; omega)) (by (repeat (first | with_reducible assumption | (refine range_new' _ _ _ _ ?_; first | rfl | (simp; done)) | refine World.rangeAt_alloc ?_ _)))
  have zR_1 : w.heap.size + 1 < w1.heap.size := by have := hb.size; simp at this; omega
  have x0_1 : w1.cell? ⟨w.heap.size, 0, none⟩ = some (.int .u8 p) := (hb.cell (p := ⟨w.heap.size, 0, none⟩) (by first | (simp; done) | (simp; omega))).trans (by simp [go_sem])
  have x1_1 : w1.cell? ⟨w.heap.size, 1, none⟩ = some (.int .u32 s) := (hb.cell (p := ⟨w.heap.size, 1, none⟩) (by first | (simp; done) | (simp; omega))).trans (by simp [go_sem])
  have x2_1 : w1.cell? ⟨w.heap.size, 2, none⟩ = some (.int .u32 d) := (hb.cell (p := ⟨w.heap.size, 2, none⟩) (by first | (simp; done) | (simp; omega))).trans (by simp [go_sem])
  have x3_1 : w1.cell? ⟨w.heap.size, 3, none⟩ = some (.int .u16 sp) := (hb.cell (p := ⟨w.heap.size, 3, none⟩) (by first | (simp; done) | (simp; omega))).trans (by simp [go_sem])
  have x4_1 : w1.cell? ⟨w.heap.size, 4, none⟩ = some (.int .u16 dp) := (hb.cell (p := ⟨w.heap.size, 4, none⟩) (by first | (simp; done) | (simp; omega))).trans (by simp [go_sem])
  have x5_1 : w1.cell? ⟨w.heap.size, 5, none⟩ = some (.int .u8 side) := (hb.cell (p := ⟨w.heap.size, 5, none⟩) (by first | (simp; done) | (simp; omega))).trans (by simp [go_sem])
  have zx_1 : w.heap.size < w1.heap.size := by have := hb.size; simp at this; omega
  clear hb
  as_aux_lemma =>
    go_wp2_with fail
    refine (H2.out _).mono ?_
    rintro e w2 ⟨rfl, hb⟩
    have b2 : Below w1.heap.size w1 w2 := bthen (by (repeat' (first | exact Below.refl _ _ | refine Below.setCell ?_ (by first | omega | (simp; done) | (simp; omega)) _ | refine Below.alloc ?_ (by first | omega | (simp; done) | (simp; omega)) _))) hb
    have d2 : Below w.heap.size w w2 := bthen d1 b2
    have k2 : w.heap.size ≤ w2.heap.size := d2.size
    have R_2 : w2.rangeAt (w.heap.size + 1) 0 (F).toList := range_below b2 (by omega) R_1
    have zR_2 : w.heap.size + 1 < w2.heap.size := Nat.lt_of_lt_of_le zR_1 b2.size
    have x0_2 : w2.cell? ⟨w.heap.size, 0, none⟩ = some (.int .u8 p) := (b2.cell (p := ⟨w.heap.size, 0, none⟩) (by show w.heap.size < w1.heap.size; omega)).trans x0_1
    have x1_2 : w2.cell? ⟨w.heap.size, 1, none⟩ = some (.int .u32 s) := (b2.cell (p := ⟨w.heap.size, 1, none⟩) (by show w.heap.size < w1.heap.size; omega)).trans x1_1
    have x2_2 : w2.cell? ⟨w.heap.size, 2, none⟩ = some (.int .u32 d) := (b2.cell (p := ⟨w.heap.size, 2, none⟩) (by show w.heap.size < w1.heap.size; omega)).trans x2_1
    have x3_2 : w2.cell? ⟨w.heap.size, 3, none⟩ = some (.int .u16 sp) := (b2.cell (p := ⟨w.heap.size, 3, none⟩) (by show w.heap.size < w1.heap.size; omega)).trans x3_1
    have x4_2 : w2.cell? ⟨w.heap.size, 4, none⟩ = some (.int .u16 dp) := (b2.cell (p := ⟨w.heap.size, 4, none⟩) (by show w.heap.size < w1.heap.size; omega)).trans x4_1
    have x5_2 : w2.cell? ⟨w.heap.size, 5, none⟩ = some (.int .u8 side) := (b2.cell (p := ⟨w.heap.size, 5, none⟩) (by show w.heap.size < w1.heap.size; omega)).trans x5_1
    have zx_2 : w.heap.size < w2.heap.size := Nat.lt_of_lt_of_le zx_1 b2.size
    clear hb b2 d1 k1 R_1 zR_1 x0_1 x1_1 x2_1 x3_1 x4_1 x5_1 zx_1
    as_aux_lemma =>
      go_wp2_with (refine wpList_load_wide 29 _ rfl (by rfl) _ _ rfl F _ Tryd.underlying29 rfl Hsz.out ?_ ?_; · (repeat (first | with_reducible exact R_2 | (refine range_new' _ _ _ _ ?_; first | rfl | (simp; done)) | refine World.rangeAt_alloc ?_ _)))
      refine (H3.out _ (HT.out.below (by (repeat' (first | with_reducible exact d2 | refine Below.setCell ?_ (by first | omega | (simp; done) | (simp; omega)) _ | refine Below.alloc ?_ (by first | omega | (simp; done) | (simp; omega)) _))))).mono ?_
      rintro e w3 ⟨rfl, hb⟩
      have b3 : Below w2.heap.size w2 w3 := bthen (by (repeat' (first | exact Below.refl _ _ | refine Below.setCell ?_ (by first | omega | (simp; done) | (simp; omega)) _ | refine Below.alloc ?_ (by first | omega | (simp; done) | (simp; omega)) _))) hb
      have d3 : Below w.heap.size w w3 := bthen d2 b3
      have k3 : w.heap.size ≤ w3.heap.size := d3.size
      have R_3 : w3.rangeAt (w.heap.size + 1) 0 (F).toList := range_below b3 (by omega) R_2
      have zR_3 : w.heap.size + 1 < w3.heap.size := Nat.lt_of_lt_of_le zR_2 b3.size
      have x0_3 : w3.cell? ⟨w.heap.size, 0, none⟩ = some (.int .u8 p) := (b3.cell (p := ⟨w.heap.size, 0, none⟩) (by show w.heap.size < w2.heap.size; omega)).trans x0_2
      have x1_3 : w3.cell? ⟨w.heap.size, 1, none⟩ = some (.int .u32 s) := (b3.cell (p := ⟨w.heap.size, 1, none⟩) (by show w.heap.size < w2.heap.size; omega)).trans x1_2
      have x2_3 : w3.cell? ⟨w.heap.size, 2, none⟩ = some (.int .u32 d) := (b3.cell (p := ⟨w.heap.size, 2, none⟩) (by show w.heap.size < w2.heap.size; omega)).trans x2_2
      have x3_3 : w3.cell? ⟨w.heap.size, 3, none⟩ = some (.int .u16 sp) := (b3.cell (p := ⟨w.heap.size, 3, none⟩) (by show w.heap.size < w2.heap.size; omega)).trans x3_2
      have x4_3 : w3.cell? ⟨w.heap.size, 4, none⟩ = some (.int .u16 dp) := (b3.cell (p := ⟨w.heap.size, 4, none⟩) (by show w.heap.size < w2.heap.size; omega)).trans x4_2
      have x5_3 : w3.cell? ⟨w.heap.size, 5, none⟩ = some (.int .u8 side) := (b3.cell (p := ⟨w.heap.size, 5, none⟩) (by show w.heap.size < w2.heap.size; omega)).trans x5_2
      have zx_3 : w.heap.size < w3.heap.size := Nat.lt_of_lt_of_le zx_2 b3.size
      clear hb b3 d2 k2 R_2 zR_2 x0_2 x1_2 x2_2 x3_2 x4_2 x5_2 zx_2
      as_aux_lemma =>
        go_wp2_with (refine wpList_load_wide 29 _ rfl (by rfl) _ _ rfl F _ Tryd.underlying29 rfl Hsz.out ?_ ?_; · (repeat (first | with_reducible exact R_3 | (refine range_new' _ _ _ _ ?_; first | rfl | (simp; done)) | refine World.rangeAt_alloc ?_ _)))
        refine (H4.out _).mono ?_
        rintro e w4 ⟨rfl, hb⟩
        have b4 : Below w3.heap.size w3 w4 := bthen (by (repeat' (first | exact Below.refl _ _ | refine Below.setCell ?_ (by first | omega | (simp; done) | (simp; omega)) _ | refine Below.alloc ?_ (by first | omega | (simp; done) | (simp; omega)) _))) hb
        have d4 : Below w.heap.size w w4 := bthen d3 b4
        have k4 : w.heap.size ≤ w4.heap.size := d4.size
        have R_4 : w4.rangeAt (w.heap.size + 1) 0 (F).toList := range_below b4 (by omega) R_3
        have zR_4 : w.heap.size + 1 < w4.heap.size := Nat.lt_of_lt_of_le zR_3 b4.size
        have x0_4 : w4.cell? ⟨w.heap.size, 0, none⟩ = some (.int .u8 p) := (b4.cell (p := ⟨w.heap.size, 0, none⟩) (by show w.heap.size < w3.heap.size; omega)).trans x0_3
        have x1_4 : w4.cell? ⟨w.heap.size, 1, none⟩ = some (.int .u32 s) := (b4.cell (p := ⟨w.heap.size, 1, none⟩) (by show w.heap.size < w3.heap.size; omega)).trans x1_3
        have x2_4 : w4.cell? ⟨w.heap.size, 2, none⟩ = some (.int .u32 d) := (b4.cell (p := ⟨w.heap.size, 2, none⟩) (by show w.heap.size < w3.heap.size; omega)).trans x2_3
        have x3_4 : w4.cell? ⟨w.heap.size, 3, none⟩ = some (.int .u16 sp) := (b4.cell (p := ⟨w.heap.size, 3, none⟩) (by show w.heap.size < w3.heap.size; omega)).trans x3_3
        have x4_4 : w4.cell? ⟨w.heap.size, 4, none⟩ = some (.int .u16 dp) := (b4.cell (p := ⟨w.heap.size, 4, none⟩) (by show w.heap.size < w3.heap.size; omega)).trans x4_3
        have x5_4 : w4.cell? ⟨w.heap.size, 5, none⟩ = some (.int .u8 side) := (b4.cell (p := ⟨w.heap.size, 5, none⟩) (by show w.heap.size < w3.heap.size; omega)).trans x5_3
        have zx_4 : w.heap.size < w4.heap.size := Nat.lt_of_lt_of_le zx_3 b4.size
        have k0_4 : w4.cell? ⟨w3.heap.size, 0, none⟩ = some (.int .u8 l0) := (hb.cell (p := ⟨w3.heap.size, 0, none⟩) (by first | (simp; done) | (simp; omega))).trans (by simp [go_sem])
        have k1_4 : w4.cell? ⟨w3.heap.size, 1, none⟩ = some (.int .u32 l1) := (hb.cell (p := ⟨w3.heap.size, 1, none⟩) (by first | (simp; done) | (simp; omega))).trans (by simp [go_sem])
        have k2_4 : w4.cell? ⟨w3.heap.size, 2, none⟩ = some (.int .u32 l2) := (hb.cell (p := ⟨w3.heap.size, 2, none⟩) (by first | (simp; done) | (simp; omega))).trans (by simp [go_sem])
        have k3_4 : w4.cell? ⟨w3.heap.size, 3, none⟩ = some (.int .u16 l3) := (hb.cell (p := ⟨w3.heap.size, 3, none⟩) (by first | (simp; done) | (simp; omega))).trans (by simp [go_sem])
        have k4_4 : w4.cell? ⟨w3.heap.size, 4, none⟩ = some (.int .u16 l4) := (hb.cell (p := ⟨w3.heap.size, 4, none⟩) (by first | (simp; done) | (simp; omega))).trans (by simp [go_sem])
        have zk_4 : w3.heap.size < w4.heap.size := by have := hb.size; simp at this; omega
        clear hb b4 d3 k3 R_3 zR_3 x0_3 x1_3 x2_3 x3_3 x4_3 x5_3 zx_3
        as_aux_lemma =>
          go_wp2_with (refine wpList_load_wide 29 _ rfl (by rfl) _ _ rfl F _ Tryd.underlying29 rfl Hsz.out ?_ ?_; · (repeat (first | with_reducible exact R_4 | (refine range_new' _ _ _ _ ?_; first | rfl | (simp; done)) | refine World.rangeAt_alloc ?_ _)))
          refine (H5.out _ (HT.out.below (by (repeat' (first | with_reducible exact d4 | refine Below.setCell ?_ (by first | omega | (simp; done) | (simp; omega)) _ | refine Below.alloc ?_ (by first | omega | (simp; done) | (simp; omega)) _))))).mono ?_
          rintro e w5 ⟨rfl, hb⟩
          have b5 : Below w4.heap.size w4 w5 := bthen (by (repeat' (first | exact Below.refl _ _ | refine Below.setCell ?_ (by first | omega | (simp; done) | (simp; omega)) _ | refine Below.alloc ?_ (by first | omega | (simp; done) | (simp; omega)) _))) hb
          have d5 : Below w.heap.size w w5 := bthen d4 b5
          have k5 : w.heap.size ≤ w5.heap.size := d5.size
          have R_5 : w5.rangeAt (w.heap.size + 1) 0 (F).toList := range_below b5 (by omega) R_4
          have zR_5 : w.heap.size + 1 < w5.heap.size := Nat.lt_of_lt_of_le zR_4 b5.size
          have x0_5 : w5.cell? ⟨w.heap.size, 0, none⟩ = some (.int .u8 p) := (b5.cell (p := ⟨w.heap.size, 0, none⟩) (by show w.heap.size < w4.heap.size; omega)).trans x0_4
          have x1_5 : w5.cell? ⟨w.heap.size, 1, none⟩ = some (.int .u32 s) := (b5.cell (p := ⟨w.heap.size, 1, none⟩) (by show w.heap.size < w4.heap.size; omega)).trans x1_4
          have x2_5 : w5.cell? ⟨w.heap.size, 2, none⟩ = some (.int .u32 d) := (b5.cell (p := ⟨w.heap.size, 2, none⟩) (by show w.heap.size < w4.heap.size; omega)).trans x2_4
          have x3_5 : w5.cell? ⟨w.heap.size, 3, none⟩ = some (.int .u16 sp) := (b5.cell (p := ⟨w.heap.size, 3, none⟩) (by show w.heap.size < w4.heap.size; omega)).trans x3_4
          have x4_5 : w5.cell? ⟨w.heap.size, 4, none⟩ = some (.int .u16 dp) := (b5.cell (p := ⟨w.heap.size, 4, none⟩) (by show w.heap.size < w4.heap.size; omega)).trans x4_4
          have x5_5 : w5.cell? ⟨w.heap.size, 5, none⟩ = some (.int .u8 side) := (b5.cell (p := ⟨w.heap.size, 5, none⟩) (by show w.heap.size < w4.heap.size; omega)).trans x5_4
          have zx_5 : w.heap.size < w5.heap.size := Nat.lt_of_lt_of_le zx_4 b5.size
          have k0_5 : w5.cell? ⟨w3.heap.size, 0, none⟩ = some (.int .u8 l0) := (b5.cell (p := ⟨w3.heap.size, 0, none⟩) (by show w3.heap.size < w4.heap.size; omega)).trans k0_4
          have k1_5 : w5.cell? ⟨w3.heap.size, 1, none⟩ = some (.int .u32 l1) := (b5.cell (p := ⟨w3.heap.size, 1, none⟩) (by show w3.heap.size < w4.heap.size; omega)).trans k1_4
          have k2_5 : w5.cell? ⟨w3.heap.size, 2, none⟩ = some (.int .u32 l2) := (b5.cell (p := ⟨w3.heap.size, 2, none⟩) (by show w3.heap.size < w4.heap.size; omega)).trans k2_4
          have k3_5 : w5.cell? ⟨w3.heap.size, 3, none⟩ = some (.int .u16 l3) := (b5.cell (p := ⟨w3.heap.size, 3, none⟩) (by show w3.heap.size < w4.heap.size; omega)).trans k3_4
          have k4_5 : w5.cell? ⟨w3.heap.size, 4, none⟩ = some (.int .u16 l4) := (b5.cell (p := ⟨w3.heap.size, 4, none⟩) (by show w3.heap.size < w4.heap.size; omega)).trans k4_4
          have zk_5 : w3.heap.size < w5.heap.size := Nat.lt_of_lt_of_le zk_4 b5.size
          have m0_5 : w5.cell? ⟨w4.heap.size, 0, none⟩ = some (.int .u8 l0) := (hb.cell (p := ⟨w4.heap.size, 0, none⟩) (by first | (simp; done) | (simp; omega))).trans (by simp [go_sem])
          have m1_5 : w5.cell? ⟨w4.heap.size, 1, none⟩ = some (.int .u32 l1) := (hb.cell (p := ⟨w4.heap.size, 1, none⟩) (by first | (simp; done) | (simp; omega))).trans (by simp [go_sem])
          have m2_5 : w5.cell? ⟨w4.heap.size, 2, none⟩ = some (.int .u32 l2) := (hb.cell (p := ⟨w4.heap.size, 2, none⟩) (by first | (simp; done) | (simp; omega))).trans (by simp [go_sem])
          have m3_5 : w5.cell? ⟨w4.heap.size, 3, none⟩ = some (.int .u16 l3) := (hb.cell (p := ⟨w4.heap.size, 3, none⟩) (by first | (simp; done) | (simp; omega))).trans (by simp [go_sem])
          have m4_5 : w5.cell? ⟨w4.heap.size, 4, none⟩ = some (.int .u16 l4) := (hb.cell (p := ⟨w4.heap.size, 4, none⟩) (by first | (simp; done) | (simp; omega))).trans (by simp [go_sem])
          have zm_5 : w4.heap.size < w5.heap.size := by have := hb.size; simp at this; omega
          clear hb b5 d4 k4 R_4 zR_4 x0_4 x1_4 x2_4 x3_4 x4_4 x5_4 zx_4 k0_4 k1_4 k2_4 k3_4 k4_4 zk_4
          as_aux_lemma =>
            go_wp2_with (refine wpList_load_wide 29 _ rfl (by rfl) _ _ rfl F _ Tryd.underlying29 rfl Hsz.out ?_ ?_; · (repeat (first | with_reducible exact R_5 | (refine range_new' _ _ _ _ ?_; first | rfl | (simp; done)) | refine World.rangeAt_alloc ?_ _)))
            refine (H6.out _).mono ?_
            rintro e w6 ⟨rfl, hb⟩
            have b6 : Below w5.heap.size w5 w6 := bthen (by (repeat' (first | exact Below.refl _ _ | refine Below.setCell ?_ (by first | omega | (simp; done) | (simp; omega)) _ | refine Below.alloc ?_ (by first | omega | (simp; done) | (simp; omega)) _))) hb
            have d6 : Below w.heap.size w w6 := bthen d5 b6
            have k6 : w.heap.size ≤ w6.heap.size := d6.size
            have R_6 : w6.rangeAt (w.heap.size + 1) 0 (F).toList := range_below b6 (by omega) R_5
            have zR_6 : w.heap.size + 1 < w6.heap.size := Nat.lt_of_lt_of_le zR_5 b6.size
            have x0_6 : w6.cell? ⟨w.heap.size, 0, none⟩ = some (.int .u8 p) := (b6.cell (p := ⟨w.heap.size, 0, none⟩) (by show w.heap.size < w5.heap.size; omega)).trans x0_5
            have x1_6 : w6.cell? ⟨w.heap.size, 1, none⟩ = some (.int .u32 s) := (b6.cell (p := ⟨w.heap.size, 1, none⟩) (by show w.heap.size < w5.heap.size; omega)).trans x1_5
            have x2_6 : w6.cell? ⟨w.heap.size, 2, none⟩ = some (.int .u32 d) := (b6.cell (p := ⟨w.heap.size, 2, none⟩) (by show w.heap.size < w5.heap.size; omega)).trans x2_5
            have x3_6 : w6.cell? ⟨w.heap.size, 3, none⟩ = some (.int .u16 sp) := (b6.cell (p := ⟨w.heap.size, 3, none⟩) (by show w.heap.size < w5.heap.size; omega)).trans x3_5
            have x4_6 : w6.cell? ⟨w.heap.size, 4, none⟩ = some (.int .u16 dp) := (b6.cell (p := ⟨w.heap.size, 4, none⟩) (by show w.heap.size < w5.heap.size; omega)).trans x4_5
            have x5_6 : w6.cell? ⟨w.heap.size, 5, none⟩ = some (.int .u8 side) := (b6.cell (p := ⟨w.heap.size, 5, none⟩) (by show w.heap.size < w5.heap.size; omega)).trans x5_5
            have zx_6 : w.heap.size < w6.heap.size := Nat.lt_of_lt_of_le zx_5 b6.size
            have k0_6 : w6.cell? ⟨w3.heap.size, 0, none⟩ = some (.int .u8 l0) := (b6.cell (p := ⟨w3.heap.size, 0, none⟩) (by show w3.heap.size < w5.heap.size; omega)).trans k0_5
            have k1_6 : w6.cell? ⟨w3.heap.size, 1, none⟩ = some (.int .u32 l1) := (b6.cell (p := ⟨w3.heap.size, 1, none⟩) (by show w3.heap.size < w5.heap.size; omega)).trans k1_5
            have k2_6 : w6.cell? ⟨w3.heap.size, 2, none⟩ = some (.int .u32 l2) := (b6.cell (p := ⟨w3.heap.size, 2, none⟩) (by show w3.heap.size < w5.heap.size; omega)).trans k2_5
            have k3_6 : w6.cell? ⟨w3.heap.size, 3, none⟩ = some (.int .u16 l3) := (b6.cell (p := ⟨w3.heap.size, 3, none⟩) (by show w3.heap.size < w5.heap.size; omega)).trans k3_5
            have k4_6 : w6.cell? ⟨w3.heap.size, 4, none⟩ = some (.int .u16 l4) := (b6.cell (p := ⟨w3.heap.size, 4, none⟩) (by show w3.heap.size < w5.heap.size; omega)).trans k4_5
            have zk_6 : w3.heap.size < w6.heap.size := Nat.lt_of_lt_of_le zk_5 b6.size
            have m0_6 : w6.cell? ⟨w4.heap.size, 0, none⟩ = some (.int .u8 l0) := (b6.cell (p := ⟨w4.heap.size, 0, none⟩) (by show w4.heap.size < w5.heap.size; omega)).trans m0_5
            have m1_6 : w6.cell? ⟨w4.heap.size, 1, none⟩ = some (.int .u32 l1) := (b6.cell (p := ⟨w4.heap.size, 1, none⟩) (by show w4.heap.size < w5.heap.size; omega)).trans m1_5
            have m2_6 : w6.cell? ⟨w4.heap.size, 2, none⟩ = some (.int .u32 l2) := (b6.cell (p := ⟨w4.heap.size, 2, none⟩) (by show w4.heap.size < w5.heap.size; omega)).trans m2_5
            have m3_6 : w6.cell? ⟨w4.heap.size, 3, none⟩ = some (.int .u16 l3) := (b6.cell (p := ⟨w4.heap.size, 3, none⟩) (by show w4.heap.size < w5.heap.size; omega)).trans m3_5
            have m4_6 : w6.cell? ⟨w4.heap.size, 4, none⟩ = some (.int .u16 l4) := (b6.cell (p := ⟨w4.heap.size, 4, none⟩) (by show w4.heap.size < w5.heap.size; omega)).trans m4_5
            have zm_6 : w4.heap.size < w6.heap.size := Nat.lt_of_lt_of_le zm_5 b6.size
            clear hb b6 d5 k5 R_5 zR_5 x0_5 x1_5 x2_5 x3_5 x4_5 x5_5 zx_5 k0_5 k1_5 k2_5 k3_5 k4_5 zk_5 m0_5 m1_5 m2_5 m3_5 m4_5 zm_5
            as_aux_lemma =>
              clear x0_6 x1_6 x2_6 x3_6 x4_6 x5_6 zx_6 R_6 zR_6
              have H8 := H7.out w6 (HT.out.below d6)
              have H9 := Lib.hid H8
              clear H8 H7
              have E := HE.out
              clear HE
              by_cases h3 : n = 3
              · subst h3
                go_wp2_with fail
                refine H9.out.mono ?_
                rintro e w' ⟨rfl, rfl⟩
                go_wp2_with fail
                go_ret
                exact ⟨by simp [hrd], d6⟩
              · have g3 : (n == 3) = false := by simpa using h3
                by_cases h11 : n = 11
                · subst h11
                  go_wp2_with fail
                  refine H9.out.mono ?_
                  rintro e w' ⟨rfl, rfl⟩
                  go_wp2_with fail
                  go_ret
                  exact ⟨by simp [hrd], d6⟩
                · have g11 : (n == 11) = false := by simpa using h11
                  by_cases h12 : n = 12
                  · subst h12
                    go_wp2_with fail
                    refine H9.out.mono ?_
                    rintro e w' ⟨rfl, rfl⟩
                    go_wp2_with fail
                    go_ret
                    exact ⟨by simp [hrd], d6⟩
                  · have g12 : (n == 12) = false := by simpa using h12
                    have gh : hrd n = false := by unfold hrd; rw [g3, g11, g12]; rfl
                    rw [gh] at H9
                    clear h3 h11 h12 gh
                    go_wp2_with fail
                    refine H9.out.mono ?_
                    rintro e w' ⟨rfl, rfl⟩
                    go_wp2_with fail
                    go_ret
                    exact ⟨by simp [hrd], d6⟩

end Go.Proofs.YtapeminpgojeaaaDoor
