/-
  The contract of the laws' own 'tells', and the walk of StreamTells.
-/
import Derived.Test.YtjmcpgagbjmfgaaDoorRStep
import Derived.Test.YtjmcpgagbjmfgaaDoorAwake
import Derived.Deep.RegionHeld3
namespace Go.Proofs.YtjmcpgagbjmfgaaDoor
open Go.RowKit
set_option linter.unusedVariables false
set_option linter.unusedSimpArgs false

theorem kc {W w' : World} (hb : Below W.heap.size W w') {a : Addr} {v : Value} (h : W.cell? a = some v) : w'.cell? a = some v := (hb.cell (cell_lt h)).trans h
theorem ropen_is (F : Array Value) (kind typ : Int) (x : Int × Int × Int) (b : Bool) (w : World) (h : Fa F kind typ) (h1 : opn kind typ = x) (h2 : opens kind typ = b) :
    Calls Tryd.prog 21 #[.agg F] w fun e w' => e = .returned (.tuple #[.agg #[.int .u8 x.1, .int .u8 x.2.1, .int .u8 x.2.2], .bool b]) ∧ Below w.heap.size w w' := by
  subst h1 h2
  exact (ropen_any F kind typ w h).mono fun _ _ ⟨a, e⟩ => ⟨a, e ▸ (((Below.refl _ _).alloc (Nat.le_refl _) _).alloc (by simp) _)⟩
theorem rstep_is (F : Array Value) (k s t d kind typ : Int) (x : Int × Int × Int) (b : Bool) (w : World) (h : Fa F kind typ) (ht : 0 ≤ t ∧ t ≤ 255) (hd : 0 ≤ d) (h1 : stF k s t d kind typ = x) (h2 : alw k s t d kind typ = b) :
    Calls Tryd.prog 22 #[.agg #[.int .u8 k, .int .u8 s, .int .u8 t], .int .u8 d, .agg F] w fun e w' => e = .returned (.tuple #[.agg #[.int .u8 x.1, .int .u8 x.2.1, .int .u8 x.2.2], .bool b]) ∧ Below w.heap.size w w' := by
  subst h1 h2
  exact rstep_any F k s t d kind typ w h ht hd
theorem right_is (k s t : Int) (b : Bool) (w : World) (hk : 0 ≤ k ∧ k ≤ 255) (ht : 0 ≤ t ∧ t ≤ 255) (hA : Ans w) (h : rt k s t = b) :
    Calls Tryd.prog 16 #[.agg #[.int .u8 k, .int .u8 s, .int .u8 t]] w fun e w' => e = .returned (.bool b) ∧ Below w.heap.size w w' := by
  subst h
  exact right_any k s t w hk ht hA
theorem rright_is (k s t : Int) (b : Bool) (w : World) (ht : 0 ≤ t ∧ t ≤ 255) (h : rt k s t = b) :
    Calls Tryd.prog 23 #[.agg #[.int .u8 k, .int .u8 s, .int .u8 t]] w fun e w' => e = .returned (.bool b) ∧ Below w.heap.size w w' := by
  subst h
  exact (rright_any k s t w ht.1 ht.2).mono fun _ _ ⟨a, e⟩ => ⟨a, e ▸ ((Below.refl _ _).alloc (Nat.le_refl _) _)⟩


set_option maxRecDepth 100000 in
set_option maxHeartbeats 4000000 in
theorem tells_no1 (F : Array Value) (k s t d kind typ : Int) (w : World) (h : Hid (Fa F kind typ)) (hA : Hid (Ans w)) (hk : 0 ≤ k ∧ k ≤ 255) (ht : 0 ≤ t ∧ t ≤ 255) (hd : Hid (0 ≤ d ∧ d ≤ 255))
    (hn : Hid ((0 : Int) ≤ 1 ∧ (1 : Int) ≤ 255)) (h1 : Hid (ans 1 = 0 ∧ isq 1 = false ∧ rans 1 = (-1))) (hm : Hid (nme 1 = ⟨#[97, 115, 107, 101, 100]⟩)) :
    Calls Tryd.prog 10 #[.agg #[.int .u8 k, .int .u8 s, .int .u8 t], .int .u8 d, .agg F, .int .u8 1] w fun e w' => e = .returned (.bool true) ∧ Below w.heap.size w w' := by
  have Hi := Lib.hid h.out.hi
  obtain ⟨O, hO⟩ : ∃ O, opn kind typ = O := ⟨_, rfl⟩
  obtain ⟨ob, hob⟩ : ∃ ob, opens kind typ = ob := ⟨_, rfl⟩
  obtain ⟨T, hT⟩ : ∃ T, stF k s t d kind typ = T := ⟨_, rfl⟩
  obtain ⟨tb, htb⟩ : ∃ tb, alw k s t d kind typ = tb := ⟨_, rfl⟩
  obtain ⟨rb, hrb⟩ : ∃ rb, rt k s t = rb := ⟨_, rfl⟩
  obtain ⟨o1, o2, o3⟩ := O
  obtain ⟨t1, t2, t3⟩ := T
  have HO := Lib.hid hO
  have Hob := Lib.hid hob
  have HT := Lib.hid hT
  have Htb := Lib.hid htb
  have Hrb := Lib.hid hrb
  clear hO hob hT htb hrb
  go_enter Tryd.func10, Tryd.ntmps10
  go_wp2_with fail
  refine (answer_is 1 0 false _ hn.out.1 hn.out.2 (hA.out.below (by (repeat' (first | exact Below.refl _ _ | refine Below.alloc ?_ (by first | omega | (simp; done) | (simp; omega)) _)))) h1.out.1 h1.out.2.1).mono ?_
  rintro e w' ⟨rfl, rfl⟩
  go_wp2_with fail
  refine (ranswer_any 1 _ hn.out.1 hn.out.2).mono ?_
  rintro e w' ⟨he, rfl⟩
  rw [h1.out.2.2] at he
  subst he
  go_wp2_with (refine wpList_load_wide 29 _ rfl (by rfl) _ _ rfl F _ Tryd.underlying29 rfl Hi.out ?_ ?_; · (repeat (first | with_reducible assumption | (refine range_new' _ _ _ _ ?_; first | rfl | (simp; done)) | refine World.rangeAt_alloc ?_ _)))
  refine (open_is F kind typ _ _ _ h.out (hA.out.below (by (repeat' (first | exact Below.refl _ _ | refine Below.alloc ?_ (by first | omega | (simp; done) | (simp; omega)) _)))) HO.out Hob.out).mono ?_
  rintro e w1 ⟨rfl, hb⟩
  have b1 : Below w.heap.size w w1 := bthen (by (repeat' (first | exact Below.refl _ _ | refine Below.alloc ?_ (by first | omega | (simp; done) | (simp; omega)) _))) hb
  have R1 : w1.rangeAt (w.heap.size + 1) 0 F.toList := range_below hb (by first | (simp; done) | (simp; omega)) (by (repeat (first | (refine range_new' _ _ _ _ ?_; first | rfl | (simp; done)) | refine World.rangeAt_alloc ?_ _)))
  have zw_1 : w.heap.size + 1 + 1 < w1.heap.size := by have := hb.size; simp at this; omega
  have zx_1 : w.heap.size < w1.heap.size := by omega
  have x0_1 : w1.cell? ⟨w.heap.size, 0, none⟩ = some (.int .u8 k) := (hb.cell (p := ⟨w.heap.size, 0, none⟩) (by first | (simp; done) | (simp; omega))).trans (by simp [go_sem])
  have x1_1 : w1.cell? ⟨w.heap.size, 1, none⟩ = some (.int .u8 s) := (hb.cell (p := ⟨w.heap.size, 1, none⟩) (by first | (simp; done) | (simp; omega))).trans (by simp [go_sem])
  have x2_1 : w1.cell? ⟨w.heap.size, 2, none⟩ = some (.int .u8 t) := (hb.cell (p := ⟨w.heap.size, 2, none⟩) (by first | (simp; done) | (simp; omega))).trans (by simp [go_sem])
  have y0_1 : w1.cell? ⟨w.heap.size + 1 + 1, 0, none⟩ = some (.int .u8 k) := (hb.cell (p := ⟨w.heap.size + 1 + 1, 0, none⟩) (by first | (simp; done) | (simp; omega))).trans (by simp [go_sem])
  have y1_1 : w1.cell? ⟨w.heap.size + 1 + 1, 1, none⟩ = some (.int .u8 s) := (hb.cell (p := ⟨w.heap.size + 1 + 1, 1, none⟩) (by first | (simp; done) | (simp; omega))).trans (by simp [go_sem])
  have y2_1 : w1.cell? ⟨w.heap.size + 1 + 1, 2, none⟩ = some (.int .u8 t) := (hb.cell (p := ⟨w.heap.size + 1 + 1, 2, none⟩) (by first | (simp; done) | (simp; omega))).trans (by simp [go_sem])
  clear hb
  as_aux_lemma =>
    go_wp2_with (refine wpList_load_wide 29 _ rfl (by rfl) _ _ rfl F _ Tryd.underlying29 rfl Hi.out ?_ ?_; · (repeat (first | with_reducible assumption | (refine range_new' _ _ _ _ ?_; first | rfl | (simp; done)) | refine World.rangeAt_alloc ?_ _)))
    refine (ropen_is F kind typ _ _ _ h.out HO.out Hob.out).mono ?_
    rintro e w2 ⟨rfl, hb⟩
    have c2 : Below w1.heap.size w1 w2 := bthen (by (repeat' (first | exact Below.refl _ _ | refine Below.alloc ?_ (by first | omega | (simp; done) | (simp; omega)) _))) hb
    have b2 : Below w.heap.size w w2 := bthen b1 c2
    have R2 : w2.rangeAt (w.heap.size + 1) 0 F.toList := range_below c2 (by omega) R1
    have zw_2 : w.heap.size + 1 + 1 < w2.heap.size := Nat.lt_of_lt_of_le zw_1 c2.size
    have zx_2 : w.heap.size < w2.heap.size := Nat.lt_of_lt_of_le zx_1 c2.size
    have x0_2 : w2.cell? ⟨w.heap.size, 0, none⟩ = some (.int .u8 k) := (c2.cell (p := ⟨w.heap.size, 0, none⟩) (by show w.heap.size < w1.heap.size; omega)).trans x0_1
    have x1_2 : w2.cell? ⟨w.heap.size, 1, none⟩ = some (.int .u8 s) := (c2.cell (p := ⟨w.heap.size, 1, none⟩) (by show w.heap.size < w1.heap.size; omega)).trans x1_1
    have x2_2 : w2.cell? ⟨w.heap.size, 2, none⟩ = some (.int .u8 t) := (c2.cell (p := ⟨w.heap.size, 2, none⟩) (by show w.heap.size < w1.heap.size; omega)).trans x2_1
    have y0_2 : w2.cell? ⟨w.heap.size + 1 + 1, 0, none⟩ = some (.int .u8 k) := (c2.cell (p := ⟨w.heap.size + 1 + 1, 0, none⟩) (by show w.heap.size + 1 + 1 < w1.heap.size; omega)).trans y0_1
    have y1_2 : w2.cell? ⟨w.heap.size + 1 + 1, 1, none⟩ = some (.int .u8 s) := (c2.cell (p := ⟨w.heap.size + 1 + 1, 1, none⟩) (by show w.heap.size + 1 + 1 < w1.heap.size; omega)).trans y1_1
    have y2_2 : w2.cell? ⟨w.heap.size + 1 + 1, 2, none⟩ = some (.int .u8 t) := (c2.cell (p := ⟨w.heap.size + 1 + 1, 2, none⟩) (by show w.heap.size + 1 + 1 < w1.heap.size; omega)).trans y2_1
    have o0_2 : w2.cell? ⟨w1.heap.size, 0, none⟩ = some (.int .u8 o1) := (hb.cell (p := ⟨w1.heap.size, 0, none⟩) (by simp)).trans (by simp [go_sem])
    have o1_2 : w2.cell? ⟨w1.heap.size, 1, none⟩ = some (.int .u8 o2) := (hb.cell (p := ⟨w1.heap.size, 1, none⟩) (by simp)).trans (by simp [go_sem])
    have o2_2 : w2.cell? ⟨w1.heap.size, 2, none⟩ = some (.int .u8 o3) := (hb.cell (p := ⟨w1.heap.size, 2, none⟩) (by simp)).trans (by simp [go_sem])
    have zo_2 : w1.heap.size < w2.heap.size := by have := hb.size; simp at this; omega
    clear R1 zw_1 zx_1 b1 c2 hb x0_1 x1_1 x2_1 y0_1 y1_1 y2_1
    as_aux_lemma =>
      go_wp2_with (refine wpList_load_wide 29 _ rfl (by rfl) _ _ rfl F _ Tryd.underlying29 rfl Hi.out ?_ ?_; · (repeat (first | with_reducible assumption | (refine range_new' _ _ _ _ ?_; first | rfl | (simp; done)) | refine World.rangeAt_alloc ?_ _)))
      refine (step_is F k s t d kind typ _ _ _ h.out (hA.out.below (by (repeat' (first | with_reducible exact b2 | refine Below.alloc ?_ (by first | omega | (simp; done) | (simp; omega)) _)))) hk ht hd.out.1 HT.out Htb.out).mono ?_
      rintro e w3 ⟨rfl, hb⟩
      have c3 : Below w2.heap.size w2 w3 := bthen (by (repeat' (first | exact Below.refl _ _ | refine Below.alloc ?_ (by first | omega | (simp; done) | (simp; omega)) _))) hb
      have b3 : Below w.heap.size w w3 := bthen b2 c3
      have R3 : w3.rangeAt (w.heap.size + 1) 0 F.toList := range_below c3 (by omega) R2
      have zw_3 : w.heap.size + 1 + 1 < w3.heap.size := Nat.lt_of_lt_of_le zw_2 c3.size
      have zx_3 : w.heap.size < w3.heap.size := Nat.lt_of_lt_of_le zx_2 c3.size
      have x0_3 : w3.cell? ⟨w.heap.size, 0, none⟩ = some (.int .u8 k) := (c3.cell (p := ⟨w.heap.size, 0, none⟩) (by show w.heap.size < w2.heap.size; omega)).trans x0_2
      have x1_3 : w3.cell? ⟨w.heap.size, 1, none⟩ = some (.int .u8 s) := (c3.cell (p := ⟨w.heap.size, 1, none⟩) (by show w.heap.size < w2.heap.size; omega)).trans x1_2
      have x2_3 : w3.cell? ⟨w.heap.size, 2, none⟩ = some (.int .u8 t) := (c3.cell (p := ⟨w.heap.size, 2, none⟩) (by show w.heap.size < w2.heap.size; omega)).trans x2_2
      have y0_3 : w3.cell? ⟨w.heap.size + 1 + 1, 0, none⟩ = some (.int .u8 k) := (c3.cell (p := ⟨w.heap.size + 1 + 1, 0, none⟩) (by show w.heap.size + 1 + 1 < w2.heap.size; omega)).trans y0_2
      have y1_3 : w3.cell? ⟨w.heap.size + 1 + 1, 1, none⟩ = some (.int .u8 s) := (c3.cell (p := ⟨w.heap.size + 1 + 1, 1, none⟩) (by show w.heap.size + 1 + 1 < w2.heap.size; omega)).trans y1_2
      have y2_3 : w3.cell? ⟨w.heap.size + 1 + 1, 2, none⟩ = some (.int .u8 t) := (c3.cell (p := ⟨w.heap.size + 1 + 1, 2, none⟩) (by show w.heap.size + 1 + 1 < w2.heap.size; omega)).trans y2_2
      have o0_3 : w3.cell? ⟨w1.heap.size, 0, none⟩ = some (.int .u8 o1) := (c3.cell (p := ⟨w1.heap.size, 0, none⟩) (by show w1.heap.size < w2.heap.size; omega)).trans o0_2
      have o1_3 : w3.cell? ⟨w1.heap.size, 1, none⟩ = some (.int .u8 o2) := (c3.cell (p := ⟨w1.heap.size, 1, none⟩) (by show w1.heap.size < w2.heap.size; omega)).trans o1_2
      have o2_3 : w3.cell? ⟨w1.heap.size, 2, none⟩ = some (.int .u8 o3) := (c3.cell (p := ⟨w1.heap.size, 2, none⟩) (by show w1.heap.size < w2.heap.size; omega)).trans o2_2
      have zo_3 : w1.heap.size < w3.heap.size := Nat.lt_of_lt_of_le zo_2 c3.size
      have p0_3 : w3.cell? ⟨w2.heap.size, 0, none⟩ = some (.int .u8 o1) := (hb.cell (p := ⟨w2.heap.size, 0, none⟩) (by simp)).trans (by simp [go_sem])
      have p1_3 : w3.cell? ⟨w2.heap.size, 1, none⟩ = some (.int .u8 o2) := (hb.cell (p := ⟨w2.heap.size, 1, none⟩) (by simp)).trans (by simp [go_sem])
      have p2_3 : w3.cell? ⟨w2.heap.size, 2, none⟩ = some (.int .u8 o3) := (hb.cell (p := ⟨w2.heap.size, 2, none⟩) (by simp)).trans (by simp [go_sem])
      have zp_3 : w2.heap.size < w3.heap.size := by have := hb.size; simp at this; omega
      clear R2 zw_2 zx_2 b2 c3 hb x0_2 x1_2 x2_2 y0_2 y1_2 y2_2 o0_2 o1_2 o2_2 zo_2
      as_aux_lemma =>
        go_wp2_with (refine wpList_load_wide 29 _ rfl (by rfl) _ _ rfl F _ Tryd.underlying29 rfl Hi.out ?_ ?_; · (repeat (first | with_reducible assumption | (refine range_new' _ _ _ _ ?_; first | rfl | (simp; done)) | refine World.rangeAt_alloc ?_ _)))
        refine (rstep_is F k s t d kind typ _ _ _ h.out ht hd.out.1 HT.out Htb.out).mono ?_
        rintro e w4 ⟨rfl, hb⟩
        have c4 : Below w3.heap.size w3 w4 := bthen (by (repeat' (first | exact Below.refl _ _ | refine Below.alloc ?_ (by first | omega | (simp; done) | (simp; omega)) _))) hb
        have b4 : Below w.heap.size w w4 := bthen b3 c4
        have R4 : w4.rangeAt (w.heap.size + 1) 0 F.toList := range_below c4 (by omega) R3
        have zw_4 : w.heap.size + 1 + 1 < w4.heap.size := Nat.lt_of_lt_of_le zw_3 c4.size
        have zx_4 : w.heap.size < w4.heap.size := Nat.lt_of_lt_of_le zx_3 c4.size
        have x0_4 : w4.cell? ⟨w.heap.size, 0, none⟩ = some (.int .u8 k) := (c4.cell (p := ⟨w.heap.size, 0, none⟩) (by show w.heap.size < w3.heap.size; omega)).trans x0_3
        have x1_4 : w4.cell? ⟨w.heap.size, 1, none⟩ = some (.int .u8 s) := (c4.cell (p := ⟨w.heap.size, 1, none⟩) (by show w.heap.size < w3.heap.size; omega)).trans x1_3
        have x2_4 : w4.cell? ⟨w.heap.size, 2, none⟩ = some (.int .u8 t) := (c4.cell (p := ⟨w.heap.size, 2, none⟩) (by show w.heap.size < w3.heap.size; omega)).trans x2_3
        have y0_4 : w4.cell? ⟨w.heap.size + 1 + 1, 0, none⟩ = some (.int .u8 k) := (c4.cell (p := ⟨w.heap.size + 1 + 1, 0, none⟩) (by show w.heap.size + 1 + 1 < w3.heap.size; omega)).trans y0_3
        have y1_4 : w4.cell? ⟨w.heap.size + 1 + 1, 1, none⟩ = some (.int .u8 s) := (c4.cell (p := ⟨w.heap.size + 1 + 1, 1, none⟩) (by show w.heap.size + 1 + 1 < w3.heap.size; omega)).trans y1_3
        have y2_4 : w4.cell? ⟨w.heap.size + 1 + 1, 2, none⟩ = some (.int .u8 t) := (c4.cell (p := ⟨w.heap.size + 1 + 1, 2, none⟩) (by show w.heap.size + 1 + 1 < w3.heap.size; omega)).trans y2_3
        have o0_4 : w4.cell? ⟨w1.heap.size, 0, none⟩ = some (.int .u8 o1) := (c4.cell (p := ⟨w1.heap.size, 0, none⟩) (by show w1.heap.size < w3.heap.size; omega)).trans o0_3
        have o1_4 : w4.cell? ⟨w1.heap.size, 1, none⟩ = some (.int .u8 o2) := (c4.cell (p := ⟨w1.heap.size, 1, none⟩) (by show w1.heap.size < w3.heap.size; omega)).trans o1_3
        have o2_4 : w4.cell? ⟨w1.heap.size, 2, none⟩ = some (.int .u8 o3) := (c4.cell (p := ⟨w1.heap.size, 2, none⟩) (by show w1.heap.size < w3.heap.size; omega)).trans o2_3
        have zo_4 : w1.heap.size < w4.heap.size := Nat.lt_of_lt_of_le zo_3 c4.size
        have p0_4 : w4.cell? ⟨w2.heap.size, 0, none⟩ = some (.int .u8 o1) := (c4.cell (p := ⟨w2.heap.size, 0, none⟩) (by show w2.heap.size < w3.heap.size; omega)).trans p0_3
        have p1_4 : w4.cell? ⟨w2.heap.size, 1, none⟩ = some (.int .u8 o2) := (c4.cell (p := ⟨w2.heap.size, 1, none⟩) (by show w2.heap.size < w3.heap.size; omega)).trans p1_3
        have p2_4 : w4.cell? ⟨w2.heap.size, 2, none⟩ = some (.int .u8 o3) := (c4.cell (p := ⟨w2.heap.size, 2, none⟩) (by show w2.heap.size < w3.heap.size; omega)).trans p2_3
        have zp_4 : w2.heap.size < w4.heap.size := Nat.lt_of_lt_of_le zp_3 c4.size
        have u0_4 : w4.cell? ⟨w3.heap.size, 0, none⟩ = some (.int .u8 t1) := (hb.cell (p := ⟨w3.heap.size, 0, none⟩) (by simp)).trans (by simp [go_sem])
        have u1_4 : w4.cell? ⟨w3.heap.size, 1, none⟩ = some (.int .u8 t2) := (hb.cell (p := ⟨w3.heap.size, 1, none⟩) (by simp)).trans (by simp [go_sem])
        have u2_4 : w4.cell? ⟨w3.heap.size, 2, none⟩ = some (.int .u8 t3) := (hb.cell (p := ⟨w3.heap.size, 2, none⟩) (by simp)).trans (by simp [go_sem])
        have zu_4 : w3.heap.size < w4.heap.size := by have := hb.size; simp at this; omega
        clear R3 zw_3 zx_3 b3 c4 hb x0_3 x1_3 x2_3 y0_3 y1_3 y2_3 o0_3 o1_3 o2_3 p0_3 p1_3 p2_3 zo_3 zp_3
        as_aux_lemma =>
          go_wp2_with fail
          generalize hW : World.alloc w4 _ = W
          have hb0 : Below w.heap.size w W := by subst hW; exact b4.alloc b4.size _
          have f0 : W.cell? ⟨w.heap.size, 0, none⟩ = some (.int .u8 k) := by subst hW; exact kc ((Below.refl _ _).alloc (Nat.le_refl _) _) x0_4
          have f1 : W.cell? ⟨w.heap.size, 1, none⟩ = some (.int .u8 s) := by subst hW; exact kc ((Below.refl _ _).alloc (Nat.le_refl _) _) x1_4
          have f2 : W.cell? ⟨w.heap.size, 2, none⟩ = some (.int .u8 t) := by subst hW; exact kc ((Below.refl _ _).alloc (Nat.le_refl _) _) x2_4
          have f3 : W.cell? ⟨w.heap.size + 1 + 1, 0, none⟩ = some (.int .u8 k) := by subst hW; exact kc ((Below.refl _ _).alloc (Nat.le_refl _) _) y0_4
          have f4 : W.cell? ⟨w.heap.size + 1 + 1, 1, none⟩ = some (.int .u8 s) := by subst hW; exact kc ((Below.refl _ _).alloc (Nat.le_refl _) _) y1_4
          have f5 : W.cell? ⟨w.heap.size + 1 + 1, 2, none⟩ = some (.int .u8 t) := by subst hW; exact kc ((Below.refl _ _).alloc (Nat.le_refl _) _) y2_4
          have f6 : W.cell? ⟨w1.heap.size, 0, none⟩ = some (.int .u8 o1) := by subst hW; exact kc ((Below.refl _ _).alloc (Nat.le_refl _) _) o0_4
          have f7 : W.cell? ⟨w1.heap.size, 1, none⟩ = some (.int .u8 o2) := by subst hW; exact kc ((Below.refl _ _).alloc (Nat.le_refl _) _) o1_4
          have f8 : W.cell? ⟨w1.heap.size, 2, none⟩ = some (.int .u8 o3) := by subst hW; exact kc ((Below.refl _ _).alloc (Nat.le_refl _) _) o2_4
          have f9 : W.cell? ⟨w2.heap.size, 0, none⟩ = some (.int .u8 o1) := by subst hW; exact kc ((Below.refl _ _).alloc (Nat.le_refl _) _) p0_4
          have f10 : W.cell? ⟨w2.heap.size, 1, none⟩ = some (.int .u8 o2) := by subst hW; exact kc ((Below.refl _ _).alloc (Nat.le_refl _) _) p1_4
          have f11 : W.cell? ⟨w2.heap.size, 2, none⟩ = some (.int .u8 o3) := by subst hW; exact kc ((Below.refl _ _).alloc (Nat.le_refl _) _) p2_4
          have f12 : W.cell? ⟨w3.heap.size, 0, none⟩ = some (.int .u8 t1) := by subst hW; exact kc ((Below.refl _ _).alloc (Nat.le_refl _) _) u0_4
          have f13 : W.cell? ⟨w3.heap.size, 1, none⟩ = some (.int .u8 t2) := by subst hW; exact kc ((Below.refl _ _).alloc (Nat.le_refl _) _) u1_4
          have f14 : W.cell? ⟨w3.heap.size, 2, none⟩ = some (.int .u8 t3) := by subst hW; exact kc ((Below.refl _ _).alloc (Nat.le_refl _) _) u2_4
          have f15 : W.cell? ⟨w4.heap.size, 0, none⟩ = some (.int .u8 t1) := by subst hW; simp [go_sem]
          have f16 : W.cell? ⟨w4.heap.size, 1, none⟩ = some (.int .u8 t2) := by subst hW; simp [go_sem]
          have f17 : W.cell? ⟨w4.heap.size, 2, none⟩ = some (.int .u8 t3) := by subst hW; simp [go_sem]
          clear hW b4 R4 zw_4 zx_4 zo_4 zp_4 zu_4 x0_4 x1_4 x2_4 y0_4 y1_4 y2_4 o0_4 o1_4 o2_4 p0_4 p1_4 p2_4 u0_4 u1_4 u2_4
          go_region_held3 (fun w' => Below w.heap.size w w' ∧ w'.cell? ⟨w.heap.size, 0, none⟩ = some (.int .u8 k) ∧ w'.cell? ⟨w.heap.size, 1, none⟩ = some (.int .u8 s) ∧ w'.cell? ⟨w.heap.size, 2, none⟩ = some (.int .u8 t) ∧ w'.cell? ⟨w.heap.size + 1 + 1, 0, none⟩ = some (.int .u8 k) ∧ w'.cell? ⟨w.heap.size + 1 + 1, 1, none⟩ = some (.int .u8 s) ∧ w'.cell? ⟨w.heap.size + 1 + 1, 2, none⟩ = some (.int .u8 t) ∧ w'.cell? ⟨w1.heap.size, 0, none⟩ = some (.int .u8 o1) ∧ w'.cell? ⟨w1.heap.size, 1, none⟩ = some (.int .u8 o2) ∧ w'.cell? ⟨w1.heap.size, 2, none⟩ = some (.int .u8 o3) ∧ w'.cell? ⟨w2.heap.size, 0, none⟩ = some (.int .u8 o1) ∧ w'.cell? ⟨w2.heap.size, 1, none⟩ = some (.int .u8 o2) ∧ w'.cell? ⟨w2.heap.size, 2, none⟩ = some (.int .u8 o3) ∧ w'.cell? ⟨w3.heap.size, 0, none⟩ = some (.int .u8 t1) ∧ w'.cell? ⟨w3.heap.size, 1, none⟩ = some (.int .u8 t2) ∧ w'.cell? ⟨w3.heap.size, 2, none⟩ = some (.int .u8 t3) ∧ w'.cell? ⟨w4.heap.size, 0, none⟩ = some (.int .u8 t1) ∧ w'.cell? ⟨w4.heap.size, 1, none⟩ = some (.int .u8 t2) ∧ w'.cell? ⟨w4.heap.size, 2, none⟩ = some (.int .u8 t3)) (first | (exact ⟨hb0.drew, f0, f1, f2, f3, f4, f5, f6, f7, f8, f9, f10, f11, f12, f13, f14, f15, f16, f17⟩) | (go_split_ands; exact ⟨bthen (by assumption) hb, kc hb (by assumption), kc hb (by assumption), kc hb (by assumption), kc hb (by assumption), kc hb (by assumption), kc hb (by assumption), kc hb (by assumption), kc hb (by assumption), kc hb (by assumption), kc hb (by assumption), kc hb (by assumption), kc hb (by assumption), kc hb (by assumption), kc hb (by assumption), kc hb (by assumption), kc hb (by assumption), kc hb (by assumption), kc hb (by assumption)⟩)) (first | (go_at_call 16; refine (right_is k s t rb _ hk ht ?_ Hrb.out).mono ?_; (exact hA.out.below (by go_split_ands; assumption)); rintro e w' ⟨rfl, hb⟩) | (go_at_call 23; refine (rright_is k s t rb _ ht Hrb.out).mono ?_; rintro e w' ⟨rfl, hb⟩))
          go_split_ands
          go_wp2_with fail
          refine (name_is 1 ⟨#[97, 115, 107, 101, 100]⟩ _ hm.out).mono ?_
          rintro e w' ⟨rfl, rfl⟩
          go_wp2_with fail
          go_ret
          exact ⟨by first | rfl | simp, by assumption⟩

set_option maxRecDepth 100000 in
set_option maxHeartbeats 4000000 in
theorem tells_no2 (F : Array Value) (k s t d kind typ : Int) (w : World) (h : Hid (Fa F kind typ)) (hA : Hid (Ans w)) (hk : 0 ≤ k ∧ k ≤ 255) (ht : 0 ≤ t ∧ t ≤ 255) (hd : Hid (0 ≤ d ∧ d ≤ 255))
    (hn : Hid ((0 : Int) ≤ 2 ∧ (2 : Int) ≤ 255)) (h1 : Hid (ans 2 = 0 ∧ isq 2 = false ∧ rans 2 = (-1))) (hm : Hid (nme 2 = ⟨#[97, 110, 115, 119, 101, 114, 101, 100]⟩)) :
    Calls Tryd.prog 10 #[.agg #[.int .u8 k, .int .u8 s, .int .u8 t], .int .u8 d, .agg F, .int .u8 2] w fun e w' => e = .returned (.bool true) ∧ Below w.heap.size w w' := by
  have Hi := Lib.hid h.out.hi
  obtain ⟨O, hO⟩ : ∃ O, opn kind typ = O := ⟨_, rfl⟩
  obtain ⟨ob, hob⟩ : ∃ ob, opens kind typ = ob := ⟨_, rfl⟩
  obtain ⟨T, hT⟩ : ∃ T, stF k s t d kind typ = T := ⟨_, rfl⟩
  obtain ⟨tb, htb⟩ : ∃ tb, alw k s t d kind typ = tb := ⟨_, rfl⟩
  obtain ⟨rb, hrb⟩ : ∃ rb, rt k s t = rb := ⟨_, rfl⟩
  obtain ⟨o1, o2, o3⟩ := O
  obtain ⟨t1, t2, t3⟩ := T
  have HO := Lib.hid hO
  have Hob := Lib.hid hob
  have HT := Lib.hid hT
  have Htb := Lib.hid htb
  have Hrb := Lib.hid hrb
  clear hO hob hT htb hrb
  go_enter Tryd.func10, Tryd.ntmps10
  go_wp2_with fail
  refine (answer_is 2 0 false _ hn.out.1 hn.out.2 (hA.out.below (by (repeat' (first | exact Below.refl _ _ | refine Below.alloc ?_ (by first | omega | (simp; done) | (simp; omega)) _)))) h1.out.1 h1.out.2.1).mono ?_
  rintro e w' ⟨rfl, rfl⟩
  go_wp2_with fail
  refine (ranswer_any 2 _ hn.out.1 hn.out.2).mono ?_
  rintro e w' ⟨he, rfl⟩
  rw [h1.out.2.2] at he
  subst he
  go_wp2_with (refine wpList_load_wide 29 _ rfl (by rfl) _ _ rfl F _ Tryd.underlying29 rfl Hi.out ?_ ?_; · (repeat (first | with_reducible assumption | (refine range_new' _ _ _ _ ?_; first | rfl | (simp; done)) | refine World.rangeAt_alloc ?_ _)))
  refine (open_is F kind typ _ _ _ h.out (hA.out.below (by (repeat' (first | exact Below.refl _ _ | refine Below.alloc ?_ (by first | omega | (simp; done) | (simp; omega)) _)))) HO.out Hob.out).mono ?_
  rintro e w1 ⟨rfl, hb⟩
  have b1 : Below w.heap.size w w1 := bthen (by (repeat' (first | exact Below.refl _ _ | refine Below.alloc ?_ (by first | omega | (simp; done) | (simp; omega)) _))) hb
  have R1 : w1.rangeAt (w.heap.size + 1) 0 F.toList := range_below hb (by first | (simp; done) | (simp; omega)) (by (repeat (first | (refine range_new' _ _ _ _ ?_; first | rfl | (simp; done)) | refine World.rangeAt_alloc ?_ _)))
  have zw_1 : w.heap.size + 1 + 1 < w1.heap.size := by have := hb.size; simp at this; omega
  have zx_1 : w.heap.size < w1.heap.size := by omega
  have x0_1 : w1.cell? ⟨w.heap.size, 0, none⟩ = some (.int .u8 k) := (hb.cell (p := ⟨w.heap.size, 0, none⟩) (by first | (simp; done) | (simp; omega))).trans (by simp [go_sem])
  have x1_1 : w1.cell? ⟨w.heap.size, 1, none⟩ = some (.int .u8 s) := (hb.cell (p := ⟨w.heap.size, 1, none⟩) (by first | (simp; done) | (simp; omega))).trans (by simp [go_sem])
  have x2_1 : w1.cell? ⟨w.heap.size, 2, none⟩ = some (.int .u8 t) := (hb.cell (p := ⟨w.heap.size, 2, none⟩) (by first | (simp; done) | (simp; omega))).trans (by simp [go_sem])
  have y0_1 : w1.cell? ⟨w.heap.size + 1 + 1, 0, none⟩ = some (.int .u8 k) := (hb.cell (p := ⟨w.heap.size + 1 + 1, 0, none⟩) (by first | (simp; done) | (simp; omega))).trans (by simp [go_sem])
  have y1_1 : w1.cell? ⟨w.heap.size + 1 + 1, 1, none⟩ = some (.int .u8 s) := (hb.cell (p := ⟨w.heap.size + 1 + 1, 1, none⟩) (by first | (simp; done) | (simp; omega))).trans (by simp [go_sem])
  have y2_1 : w1.cell? ⟨w.heap.size + 1 + 1, 2, none⟩ = some (.int .u8 t) := (hb.cell (p := ⟨w.heap.size + 1 + 1, 2, none⟩) (by first | (simp; done) | (simp; omega))).trans (by simp [go_sem])
  clear hb
  as_aux_lemma =>
    go_wp2_with (refine wpList_load_wide 29 _ rfl (by rfl) _ _ rfl F _ Tryd.underlying29 rfl Hi.out ?_ ?_; · (repeat (first | with_reducible assumption | (refine range_new' _ _ _ _ ?_; first | rfl | (simp; done)) | refine World.rangeAt_alloc ?_ _)))
    refine (ropen_is F kind typ _ _ _ h.out HO.out Hob.out).mono ?_
    rintro e w2 ⟨rfl, hb⟩
    have c2 : Below w1.heap.size w1 w2 := bthen (by (repeat' (first | exact Below.refl _ _ | refine Below.alloc ?_ (by first | omega | (simp; done) | (simp; omega)) _))) hb
    have b2 : Below w.heap.size w w2 := bthen b1 c2
    have R2 : w2.rangeAt (w.heap.size + 1) 0 F.toList := range_below c2 (by omega) R1
    have zw_2 : w.heap.size + 1 + 1 < w2.heap.size := Nat.lt_of_lt_of_le zw_1 c2.size
    have zx_2 : w.heap.size < w2.heap.size := Nat.lt_of_lt_of_le zx_1 c2.size
    have x0_2 : w2.cell? ⟨w.heap.size, 0, none⟩ = some (.int .u8 k) := (c2.cell (p := ⟨w.heap.size, 0, none⟩) (by show w.heap.size < w1.heap.size; omega)).trans x0_1
    have x1_2 : w2.cell? ⟨w.heap.size, 1, none⟩ = some (.int .u8 s) := (c2.cell (p := ⟨w.heap.size, 1, none⟩) (by show w.heap.size < w1.heap.size; omega)).trans x1_1
    have x2_2 : w2.cell? ⟨w.heap.size, 2, none⟩ = some (.int .u8 t) := (c2.cell (p := ⟨w.heap.size, 2, none⟩) (by show w.heap.size < w1.heap.size; omega)).trans x2_1
    have y0_2 : w2.cell? ⟨w.heap.size + 1 + 1, 0, none⟩ = some (.int .u8 k) := (c2.cell (p := ⟨w.heap.size + 1 + 1, 0, none⟩) (by show w.heap.size + 1 + 1 < w1.heap.size; omega)).trans y0_1
    have y1_2 : w2.cell? ⟨w.heap.size + 1 + 1, 1, none⟩ = some (.int .u8 s) := (c2.cell (p := ⟨w.heap.size + 1 + 1, 1, none⟩) (by show w.heap.size + 1 + 1 < w1.heap.size; omega)).trans y1_1
    have y2_2 : w2.cell? ⟨w.heap.size + 1 + 1, 2, none⟩ = some (.int .u8 t) := (c2.cell (p := ⟨w.heap.size + 1 + 1, 2, none⟩) (by show w.heap.size + 1 + 1 < w1.heap.size; omega)).trans y2_1
    have o0_2 : w2.cell? ⟨w1.heap.size, 0, none⟩ = some (.int .u8 o1) := (hb.cell (p := ⟨w1.heap.size, 0, none⟩) (by simp)).trans (by simp [go_sem])
    have o1_2 : w2.cell? ⟨w1.heap.size, 1, none⟩ = some (.int .u8 o2) := (hb.cell (p := ⟨w1.heap.size, 1, none⟩) (by simp)).trans (by simp [go_sem])
    have o2_2 : w2.cell? ⟨w1.heap.size, 2, none⟩ = some (.int .u8 o3) := (hb.cell (p := ⟨w1.heap.size, 2, none⟩) (by simp)).trans (by simp [go_sem])
    have zo_2 : w1.heap.size < w2.heap.size := by have := hb.size; simp at this; omega
    clear R1 zw_1 zx_1 b1 c2 hb x0_1 x1_1 x2_1 y0_1 y1_1 y2_1
    as_aux_lemma =>
      go_wp2_with (refine wpList_load_wide 29 _ rfl (by rfl) _ _ rfl F _ Tryd.underlying29 rfl Hi.out ?_ ?_; · (repeat (first | with_reducible assumption | (refine range_new' _ _ _ _ ?_; first | rfl | (simp; done)) | refine World.rangeAt_alloc ?_ _)))
      refine (step_is F k s t d kind typ _ _ _ h.out (hA.out.below (by (repeat' (first | with_reducible exact b2 | refine Below.alloc ?_ (by first | omega | (simp; done) | (simp; omega)) _)))) hk ht hd.out.1 HT.out Htb.out).mono ?_
      rintro e w3 ⟨rfl, hb⟩
      have c3 : Below w2.heap.size w2 w3 := bthen (by (repeat' (first | exact Below.refl _ _ | refine Below.alloc ?_ (by first | omega | (simp; done) | (simp; omega)) _))) hb
      have b3 : Below w.heap.size w w3 := bthen b2 c3
      have R3 : w3.rangeAt (w.heap.size + 1) 0 F.toList := range_below c3 (by omega) R2
      have zw_3 : w.heap.size + 1 + 1 < w3.heap.size := Nat.lt_of_lt_of_le zw_2 c3.size
      have zx_3 : w.heap.size < w3.heap.size := Nat.lt_of_lt_of_le zx_2 c3.size
      have x0_3 : w3.cell? ⟨w.heap.size, 0, none⟩ = some (.int .u8 k) := (c3.cell (p := ⟨w.heap.size, 0, none⟩) (by show w.heap.size < w2.heap.size; omega)).trans x0_2
      have x1_3 : w3.cell? ⟨w.heap.size, 1, none⟩ = some (.int .u8 s) := (c3.cell (p := ⟨w.heap.size, 1, none⟩) (by show w.heap.size < w2.heap.size; omega)).trans x1_2
      have x2_3 : w3.cell? ⟨w.heap.size, 2, none⟩ = some (.int .u8 t) := (c3.cell (p := ⟨w.heap.size, 2, none⟩) (by show w.heap.size < w2.heap.size; omega)).trans x2_2
      have y0_3 : w3.cell? ⟨w.heap.size + 1 + 1, 0, none⟩ = some (.int .u8 k) := (c3.cell (p := ⟨w.heap.size + 1 + 1, 0, none⟩) (by show w.heap.size + 1 + 1 < w2.heap.size; omega)).trans y0_2
      have y1_3 : w3.cell? ⟨w.heap.size + 1 + 1, 1, none⟩ = some (.int .u8 s) := (c3.cell (p := ⟨w.heap.size + 1 + 1, 1, none⟩) (by show w.heap.size + 1 + 1 < w2.heap.size; omega)).trans y1_2
      have y2_3 : w3.cell? ⟨w.heap.size + 1 + 1, 2, none⟩ = some (.int .u8 t) := (c3.cell (p := ⟨w.heap.size + 1 + 1, 2, none⟩) (by show w.heap.size + 1 + 1 < w2.heap.size; omega)).trans y2_2
      have o0_3 : w3.cell? ⟨w1.heap.size, 0, none⟩ = some (.int .u8 o1) := (c3.cell (p := ⟨w1.heap.size, 0, none⟩) (by show w1.heap.size < w2.heap.size; omega)).trans o0_2
      have o1_3 : w3.cell? ⟨w1.heap.size, 1, none⟩ = some (.int .u8 o2) := (c3.cell (p := ⟨w1.heap.size, 1, none⟩) (by show w1.heap.size < w2.heap.size; omega)).trans o1_2
      have o2_3 : w3.cell? ⟨w1.heap.size, 2, none⟩ = some (.int .u8 o3) := (c3.cell (p := ⟨w1.heap.size, 2, none⟩) (by show w1.heap.size < w2.heap.size; omega)).trans o2_2
      have zo_3 : w1.heap.size < w3.heap.size := Nat.lt_of_lt_of_le zo_2 c3.size
      have p0_3 : w3.cell? ⟨w2.heap.size, 0, none⟩ = some (.int .u8 o1) := (hb.cell (p := ⟨w2.heap.size, 0, none⟩) (by simp)).trans (by simp [go_sem])
      have p1_3 : w3.cell? ⟨w2.heap.size, 1, none⟩ = some (.int .u8 o2) := (hb.cell (p := ⟨w2.heap.size, 1, none⟩) (by simp)).trans (by simp [go_sem])
      have p2_3 : w3.cell? ⟨w2.heap.size, 2, none⟩ = some (.int .u8 o3) := (hb.cell (p := ⟨w2.heap.size, 2, none⟩) (by simp)).trans (by simp [go_sem])
      have zp_3 : w2.heap.size < w3.heap.size := by have := hb.size; simp at this; omega
      clear R2 zw_2 zx_2 b2 c3 hb x0_2 x1_2 x2_2 y0_2 y1_2 y2_2 o0_2 o1_2 o2_2 zo_2
      as_aux_lemma =>
        go_wp2_with (refine wpList_load_wide 29 _ rfl (by rfl) _ _ rfl F _ Tryd.underlying29 rfl Hi.out ?_ ?_; · (repeat (first | with_reducible assumption | (refine range_new' _ _ _ _ ?_; first | rfl | (simp; done)) | refine World.rangeAt_alloc ?_ _)))
        refine (rstep_is F k s t d kind typ _ _ _ h.out ht hd.out.1 HT.out Htb.out).mono ?_
        rintro e w4 ⟨rfl, hb⟩
        have c4 : Below w3.heap.size w3 w4 := bthen (by (repeat' (first | exact Below.refl _ _ | refine Below.alloc ?_ (by first | omega | (simp; done) | (simp; omega)) _))) hb
        have b4 : Below w.heap.size w w4 := bthen b3 c4
        have R4 : w4.rangeAt (w.heap.size + 1) 0 F.toList := range_below c4 (by omega) R3
        have zw_4 : w.heap.size + 1 + 1 < w4.heap.size := Nat.lt_of_lt_of_le zw_3 c4.size
        have zx_4 : w.heap.size < w4.heap.size := Nat.lt_of_lt_of_le zx_3 c4.size
        have x0_4 : w4.cell? ⟨w.heap.size, 0, none⟩ = some (.int .u8 k) := (c4.cell (p := ⟨w.heap.size, 0, none⟩) (by show w.heap.size < w3.heap.size; omega)).trans x0_3
        have x1_4 : w4.cell? ⟨w.heap.size, 1, none⟩ = some (.int .u8 s) := (c4.cell (p := ⟨w.heap.size, 1, none⟩) (by show w.heap.size < w3.heap.size; omega)).trans x1_3
        have x2_4 : w4.cell? ⟨w.heap.size, 2, none⟩ = some (.int .u8 t) := (c4.cell (p := ⟨w.heap.size, 2, none⟩) (by show w.heap.size < w3.heap.size; omega)).trans x2_3
        have y0_4 : w4.cell? ⟨w.heap.size + 1 + 1, 0, none⟩ = some (.int .u8 k) := (c4.cell (p := ⟨w.heap.size + 1 + 1, 0, none⟩) (by show w.heap.size + 1 + 1 < w3.heap.size; omega)).trans y0_3
        have y1_4 : w4.cell? ⟨w.heap.size + 1 + 1, 1, none⟩ = some (.int .u8 s) := (c4.cell (p := ⟨w.heap.size + 1 + 1, 1, none⟩) (by show w.heap.size + 1 + 1 < w3.heap.size; omega)).trans y1_3
        have y2_4 : w4.cell? ⟨w.heap.size + 1 + 1, 2, none⟩ = some (.int .u8 t) := (c4.cell (p := ⟨w.heap.size + 1 + 1, 2, none⟩) (by show w.heap.size + 1 + 1 < w3.heap.size; omega)).trans y2_3
        have o0_4 : w4.cell? ⟨w1.heap.size, 0, none⟩ = some (.int .u8 o1) := (c4.cell (p := ⟨w1.heap.size, 0, none⟩) (by show w1.heap.size < w3.heap.size; omega)).trans o0_3
        have o1_4 : w4.cell? ⟨w1.heap.size, 1, none⟩ = some (.int .u8 o2) := (c4.cell (p := ⟨w1.heap.size, 1, none⟩) (by show w1.heap.size < w3.heap.size; omega)).trans o1_3
        have o2_4 : w4.cell? ⟨w1.heap.size, 2, none⟩ = some (.int .u8 o3) := (c4.cell (p := ⟨w1.heap.size, 2, none⟩) (by show w1.heap.size < w3.heap.size; omega)).trans o2_3
        have zo_4 : w1.heap.size < w4.heap.size := Nat.lt_of_lt_of_le zo_3 c4.size
        have p0_4 : w4.cell? ⟨w2.heap.size, 0, none⟩ = some (.int .u8 o1) := (c4.cell (p := ⟨w2.heap.size, 0, none⟩) (by show w2.heap.size < w3.heap.size; omega)).trans p0_3
        have p1_4 : w4.cell? ⟨w2.heap.size, 1, none⟩ = some (.int .u8 o2) := (c4.cell (p := ⟨w2.heap.size, 1, none⟩) (by show w2.heap.size < w3.heap.size; omega)).trans p1_3
        have p2_4 : w4.cell? ⟨w2.heap.size, 2, none⟩ = some (.int .u8 o3) := (c4.cell (p := ⟨w2.heap.size, 2, none⟩) (by show w2.heap.size < w3.heap.size; omega)).trans p2_3
        have zp_4 : w2.heap.size < w4.heap.size := Nat.lt_of_lt_of_le zp_3 c4.size
        have u0_4 : w4.cell? ⟨w3.heap.size, 0, none⟩ = some (.int .u8 t1) := (hb.cell (p := ⟨w3.heap.size, 0, none⟩) (by simp)).trans (by simp [go_sem])
        have u1_4 : w4.cell? ⟨w3.heap.size, 1, none⟩ = some (.int .u8 t2) := (hb.cell (p := ⟨w3.heap.size, 1, none⟩) (by simp)).trans (by simp [go_sem])
        have u2_4 : w4.cell? ⟨w3.heap.size, 2, none⟩ = some (.int .u8 t3) := (hb.cell (p := ⟨w3.heap.size, 2, none⟩) (by simp)).trans (by simp [go_sem])
        have zu_4 : w3.heap.size < w4.heap.size := by have := hb.size; simp at this; omega
        clear R3 zw_3 zx_3 b3 c4 hb x0_3 x1_3 x2_3 y0_3 y1_3 y2_3 o0_3 o1_3 o2_3 p0_3 p1_3 p2_3 zo_3 zp_3
        as_aux_lemma =>
          go_wp2_with fail
          generalize hW : World.alloc w4 _ = W
          have hb0 : Below w.heap.size w W := by subst hW; exact b4.alloc b4.size _
          have f0 : W.cell? ⟨w.heap.size, 0, none⟩ = some (.int .u8 k) := by subst hW; exact kc ((Below.refl _ _).alloc (Nat.le_refl _) _) x0_4
          have f1 : W.cell? ⟨w.heap.size, 1, none⟩ = some (.int .u8 s) := by subst hW; exact kc ((Below.refl _ _).alloc (Nat.le_refl _) _) x1_4
          have f2 : W.cell? ⟨w.heap.size, 2, none⟩ = some (.int .u8 t) := by subst hW; exact kc ((Below.refl _ _).alloc (Nat.le_refl _) _) x2_4
          have f3 : W.cell? ⟨w.heap.size + 1 + 1, 0, none⟩ = some (.int .u8 k) := by subst hW; exact kc ((Below.refl _ _).alloc (Nat.le_refl _) _) y0_4
          have f4 : W.cell? ⟨w.heap.size + 1 + 1, 1, none⟩ = some (.int .u8 s) := by subst hW; exact kc ((Below.refl _ _).alloc (Nat.le_refl _) _) y1_4
          have f5 : W.cell? ⟨w.heap.size + 1 + 1, 2, none⟩ = some (.int .u8 t) := by subst hW; exact kc ((Below.refl _ _).alloc (Nat.le_refl _) _) y2_4
          have f6 : W.cell? ⟨w1.heap.size, 0, none⟩ = some (.int .u8 o1) := by subst hW; exact kc ((Below.refl _ _).alloc (Nat.le_refl _) _) o0_4
          have f7 : W.cell? ⟨w1.heap.size, 1, none⟩ = some (.int .u8 o2) := by subst hW; exact kc ((Below.refl _ _).alloc (Nat.le_refl _) _) o1_4
          have f8 : W.cell? ⟨w1.heap.size, 2, none⟩ = some (.int .u8 o3) := by subst hW; exact kc ((Below.refl _ _).alloc (Nat.le_refl _) _) o2_4
          have f9 : W.cell? ⟨w2.heap.size, 0, none⟩ = some (.int .u8 o1) := by subst hW; exact kc ((Below.refl _ _).alloc (Nat.le_refl _) _) p0_4
          have f10 : W.cell? ⟨w2.heap.size, 1, none⟩ = some (.int .u8 o2) := by subst hW; exact kc ((Below.refl _ _).alloc (Nat.le_refl _) _) p1_4
          have f11 : W.cell? ⟨w2.heap.size, 2, none⟩ = some (.int .u8 o3) := by subst hW; exact kc ((Below.refl _ _).alloc (Nat.le_refl _) _) p2_4
          have f12 : W.cell? ⟨w3.heap.size, 0, none⟩ = some (.int .u8 t1) := by subst hW; exact kc ((Below.refl _ _).alloc (Nat.le_refl _) _) u0_4
          have f13 : W.cell? ⟨w3.heap.size, 1, none⟩ = some (.int .u8 t2) := by subst hW; exact kc ((Below.refl _ _).alloc (Nat.le_refl _) _) u1_4
          have f14 : W.cell? ⟨w3.heap.size, 2, none⟩ = some (.int .u8 t3) := by subst hW; exact kc ((Below.refl _ _).alloc (Nat.le_refl _) _) u2_4
          have f15 : W.cell? ⟨w4.heap.size, 0, none⟩ = some (.int .u8 t1) := by subst hW; simp [go_sem]
          have f16 : W.cell? ⟨w4.heap.size, 1, none⟩ = some (.int .u8 t2) := by subst hW; simp [go_sem]
          have f17 : W.cell? ⟨w4.heap.size, 2, none⟩ = some (.int .u8 t3) := by subst hW; simp [go_sem]
          clear hW b4 R4 zw_4 zx_4 zo_4 zp_4 zu_4 x0_4 x1_4 x2_4 y0_4 y1_4 y2_4 o0_4 o1_4 o2_4 p0_4 p1_4 p2_4 u0_4 u1_4 u2_4
          go_region_held3 (fun w' => Below w.heap.size w w' ∧ w'.cell? ⟨w.heap.size, 0, none⟩ = some (.int .u8 k) ∧ w'.cell? ⟨w.heap.size, 1, none⟩ = some (.int .u8 s) ∧ w'.cell? ⟨w.heap.size, 2, none⟩ = some (.int .u8 t) ∧ w'.cell? ⟨w.heap.size + 1 + 1, 0, none⟩ = some (.int .u8 k) ∧ w'.cell? ⟨w.heap.size + 1 + 1, 1, none⟩ = some (.int .u8 s) ∧ w'.cell? ⟨w.heap.size + 1 + 1, 2, none⟩ = some (.int .u8 t) ∧ w'.cell? ⟨w1.heap.size, 0, none⟩ = some (.int .u8 o1) ∧ w'.cell? ⟨w1.heap.size, 1, none⟩ = some (.int .u8 o2) ∧ w'.cell? ⟨w1.heap.size, 2, none⟩ = some (.int .u8 o3) ∧ w'.cell? ⟨w2.heap.size, 0, none⟩ = some (.int .u8 o1) ∧ w'.cell? ⟨w2.heap.size, 1, none⟩ = some (.int .u8 o2) ∧ w'.cell? ⟨w2.heap.size, 2, none⟩ = some (.int .u8 o3) ∧ w'.cell? ⟨w3.heap.size, 0, none⟩ = some (.int .u8 t1) ∧ w'.cell? ⟨w3.heap.size, 1, none⟩ = some (.int .u8 t2) ∧ w'.cell? ⟨w3.heap.size, 2, none⟩ = some (.int .u8 t3) ∧ w'.cell? ⟨w4.heap.size, 0, none⟩ = some (.int .u8 t1) ∧ w'.cell? ⟨w4.heap.size, 1, none⟩ = some (.int .u8 t2) ∧ w'.cell? ⟨w4.heap.size, 2, none⟩ = some (.int .u8 t3)) (first | (exact ⟨hb0.drew, f0, f1, f2, f3, f4, f5, f6, f7, f8, f9, f10, f11, f12, f13, f14, f15, f16, f17⟩) | (go_split_ands; exact ⟨bthen (by assumption) hb, kc hb (by assumption), kc hb (by assumption), kc hb (by assumption), kc hb (by assumption), kc hb (by assumption), kc hb (by assumption), kc hb (by assumption), kc hb (by assumption), kc hb (by assumption), kc hb (by assumption), kc hb (by assumption), kc hb (by assumption), kc hb (by assumption), kc hb (by assumption), kc hb (by assumption), kc hb (by assumption), kc hb (by assumption), kc hb (by assumption)⟩)) (first | (go_at_call 16; refine (right_is k s t rb _ hk ht ?_ Hrb.out).mono ?_; (exact hA.out.below (by go_split_ands; assumption)); rintro e w' ⟨rfl, hb⟩) | (go_at_call 23; refine (rright_is k s t rb _ ht Hrb.out).mono ?_; rintro e w' ⟨rfl, hb⟩))
          go_split_ands
          go_wp2_with fail
          refine (name_is 2 ⟨#[97, 110, 115, 119, 101, 114, 101, 100]⟩ _ hm.out).mono ?_
          rintro e w' ⟨rfl, rfl⟩
          go_wp2_with fail
          go_ret
          exact ⟨by first | rfl | simp, by assumption⟩

set_option maxRecDepth 100000 in
set_option maxHeartbeats 4000000 in
theorem tells_no (F : Array Value) (k s t d kind typ n : Int) (w : World) (h : Hid (Fa F kind typ)) (hA : Hid (Ans w)) (hk : 0 ≤ k ∧ k ≤ 255) (ht : 0 ≤ t ∧ t ≤ 255) (hd : Hid (0 ≤ d ∧ d ≤ 255))
    (hn : Hid ((0 : Int) ≤ n ∧ (n : Int) ≤ 255)) (h1 : Hid (ans n = 0 ∧ isq n = false ∧ rans n = (-1))) (g1 : (n == 1) = false) (g2 : (n == 2) = false) (hm : Hid (nme n = ⟨#[]⟩)) :
    Calls Tryd.prog 10 #[.agg #[.int .u8 k, .int .u8 s, .int .u8 t], .int .u8 d, .agg F, .int .u8 n] w fun e w' => e = .returned (.bool true) ∧ Below w.heap.size w w' := by
  have Hi := Lib.hid h.out.hi
  obtain ⟨O, hO⟩ : ∃ O, opn kind typ = O := ⟨_, rfl⟩
  obtain ⟨ob, hob⟩ : ∃ ob, opens kind typ = ob := ⟨_, rfl⟩
  obtain ⟨T, hT⟩ : ∃ T, stF k s t d kind typ = T := ⟨_, rfl⟩
  obtain ⟨tb, htb⟩ : ∃ tb, alw k s t d kind typ = tb := ⟨_, rfl⟩
  obtain ⟨rb, hrb⟩ : ∃ rb, rt k s t = rb := ⟨_, rfl⟩
  obtain ⟨o1, o2, o3⟩ := O
  obtain ⟨t1, t2, t3⟩ := T
  have HO := Lib.hid hO
  have Hob := Lib.hid hob
  have HT := Lib.hid hT
  have Htb := Lib.hid htb
  have Hrb := Lib.hid hrb
  clear hO hob hT htb hrb
  go_enter Tryd.func10, Tryd.ntmps10
  go_wp2_with fail
  refine (answer_is n 0 false _ hn.out.1 hn.out.2 (hA.out.below (by (repeat' (first | exact Below.refl _ _ | refine Below.alloc ?_ (by first | omega | (simp; done) | (simp; omega)) _)))) h1.out.1 h1.out.2.1).mono ?_
  rintro e w' ⟨rfl, rfl⟩
  go_wp2_with fail
  refine (ranswer_any n _ hn.out.1 hn.out.2).mono ?_
  rintro e w' ⟨he, rfl⟩
  rw [h1.out.2.2] at he
  subst he
  go_wp2_with (refine wpList_load_wide 29 _ rfl (by rfl) _ _ rfl F _ Tryd.underlying29 rfl Hi.out ?_ ?_; · (repeat (first | with_reducible assumption | (refine range_new' _ _ _ _ ?_; first | rfl | (simp; done)) | refine World.rangeAt_alloc ?_ _)))
  refine (open_is F kind typ _ _ _ h.out (hA.out.below (by (repeat' (first | exact Below.refl _ _ | refine Below.alloc ?_ (by first | omega | (simp; done) | (simp; omega)) _)))) HO.out Hob.out).mono ?_
  rintro e w1 ⟨rfl, hb⟩
  have b1 : Below w.heap.size w w1 := bthen (by (repeat' (first | exact Below.refl _ _ | refine Below.alloc ?_ (by first | omega | (simp; done) | (simp; omega)) _))) hb
  have R1 : w1.rangeAt (w.heap.size + 1) 0 F.toList := range_below hb (by first | (simp; done) | (simp; omega)) (by (repeat (first | (refine range_new' _ _ _ _ ?_; first | rfl | (simp; done)) | refine World.rangeAt_alloc ?_ _)))
  have zw_1 : w.heap.size + 1 + 1 < w1.heap.size := by have := hb.size; simp at this; omega
  have zx_1 : w.heap.size < w1.heap.size := by omega
  have x0_1 : w1.cell? ⟨w.heap.size, 0, none⟩ = some (.int .u8 k) := (hb.cell (p := ⟨w.heap.size, 0, none⟩) (by first | (simp; done) | (simp; omega))).trans (by simp [go_sem])
  have x1_1 : w1.cell? ⟨w.heap.size, 1, none⟩ = some (.int .u8 s) := (hb.cell (p := ⟨w.heap.size, 1, none⟩) (by first | (simp; done) | (simp; omega))).trans (by simp [go_sem])
  have x2_1 : w1.cell? ⟨w.heap.size, 2, none⟩ = some (.int .u8 t) := (hb.cell (p := ⟨w.heap.size, 2, none⟩) (by first | (simp; done) | (simp; omega))).trans (by simp [go_sem])
  have y0_1 : w1.cell? ⟨w.heap.size + 1 + 1, 0, none⟩ = some (.int .u8 k) := (hb.cell (p := ⟨w.heap.size + 1 + 1, 0, none⟩) (by first | (simp; done) | (simp; omega))).trans (by simp [go_sem])
  have y1_1 : w1.cell? ⟨w.heap.size + 1 + 1, 1, none⟩ = some (.int .u8 s) := (hb.cell (p := ⟨w.heap.size + 1 + 1, 1, none⟩) (by first | (simp; done) | (simp; omega))).trans (by simp [go_sem])
  have y2_1 : w1.cell? ⟨w.heap.size + 1 + 1, 2, none⟩ = some (.int .u8 t) := (hb.cell (p := ⟨w.heap.size + 1 + 1, 2, none⟩) (by first | (simp; done) | (simp; omega))).trans (by simp [go_sem])
  clear hb
  as_aux_lemma =>
    go_wp2_with (refine wpList_load_wide 29 _ rfl (by rfl) _ _ rfl F _ Tryd.underlying29 rfl Hi.out ?_ ?_; · (repeat (first | with_reducible assumption | (refine range_new' _ _ _ _ ?_; first | rfl | (simp; done)) | refine World.rangeAt_alloc ?_ _)))
    refine (ropen_is F kind typ _ _ _ h.out HO.out Hob.out).mono ?_
    rintro e w2 ⟨rfl, hb⟩
    have c2 : Below w1.heap.size w1 w2 := bthen (by (repeat' (first | exact Below.refl _ _ | refine Below.alloc ?_ (by first | omega | (simp; done) | (simp; omega)) _))) hb
    have b2 : Below w.heap.size w w2 := bthen b1 c2
    have R2 : w2.rangeAt (w.heap.size + 1) 0 F.toList := range_below c2 (by omega) R1
    have zw_2 : w.heap.size + 1 + 1 < w2.heap.size := Nat.lt_of_lt_of_le zw_1 c2.size
    have zx_2 : w.heap.size < w2.heap.size := Nat.lt_of_lt_of_le zx_1 c2.size
    have x0_2 : w2.cell? ⟨w.heap.size, 0, none⟩ = some (.int .u8 k) := (c2.cell (p := ⟨w.heap.size, 0, none⟩) (by show w.heap.size < w1.heap.size; omega)).trans x0_1
    have x1_2 : w2.cell? ⟨w.heap.size, 1, none⟩ = some (.int .u8 s) := (c2.cell (p := ⟨w.heap.size, 1, none⟩) (by show w.heap.size < w1.heap.size; omega)).trans x1_1
    have x2_2 : w2.cell? ⟨w.heap.size, 2, none⟩ = some (.int .u8 t) := (c2.cell (p := ⟨w.heap.size, 2, none⟩) (by show w.heap.size < w1.heap.size; omega)).trans x2_1
    have y0_2 : w2.cell? ⟨w.heap.size + 1 + 1, 0, none⟩ = some (.int .u8 k) := (c2.cell (p := ⟨w.heap.size + 1 + 1, 0, none⟩) (by show w.heap.size + 1 + 1 < w1.heap.size; omega)).trans y0_1
    have y1_2 : w2.cell? ⟨w.heap.size + 1 + 1, 1, none⟩ = some (.int .u8 s) := (c2.cell (p := ⟨w.heap.size + 1 + 1, 1, none⟩) (by show w.heap.size + 1 + 1 < w1.heap.size; omega)).trans y1_1
    have y2_2 : w2.cell? ⟨w.heap.size + 1 + 1, 2, none⟩ = some (.int .u8 t) := (c2.cell (p := ⟨w.heap.size + 1 + 1, 2, none⟩) (by show w.heap.size + 1 + 1 < w1.heap.size; omega)).trans y2_1
    have o0_2 : w2.cell? ⟨w1.heap.size, 0, none⟩ = some (.int .u8 o1) := (hb.cell (p := ⟨w1.heap.size, 0, none⟩) (by simp)).trans (by simp [go_sem])
    have o1_2 : w2.cell? ⟨w1.heap.size, 1, none⟩ = some (.int .u8 o2) := (hb.cell (p := ⟨w1.heap.size, 1, none⟩) (by simp)).trans (by simp [go_sem])
    have o2_2 : w2.cell? ⟨w1.heap.size, 2, none⟩ = some (.int .u8 o3) := (hb.cell (p := ⟨w1.heap.size, 2, none⟩) (by simp)).trans (by simp [go_sem])
    have zo_2 : w1.heap.size < w2.heap.size := by have := hb.size; simp at this; omega
    clear R1 zw_1 zx_1 b1 c2 hb x0_1 x1_1 x2_1 y0_1 y1_1 y2_1
    as_aux_lemma =>
      go_wp2_with (refine wpList_load_wide 29 _ rfl (by rfl) _ _ rfl F _ Tryd.underlying29 rfl Hi.out ?_ ?_; · (repeat (first | with_reducible assumption | (refine range_new' _ _ _ _ ?_; first | rfl | (simp; done)) | refine World.rangeAt_alloc ?_ _)))
      refine (step_is F k s t d kind typ _ _ _ h.out (hA.out.below (by (repeat' (first | with_reducible exact b2 | refine Below.alloc ?_ (by first | omega | (simp; done) | (simp; omega)) _)))) hk ht hd.out.1 HT.out Htb.out).mono ?_
      rintro e w3 ⟨rfl, hb⟩
      have c3 : Below w2.heap.size w2 w3 := bthen (by (repeat' (first | exact Below.refl _ _ | refine Below.alloc ?_ (by first | omega | (simp; done) | (simp; omega)) _))) hb
      have b3 : Below w.heap.size w w3 := bthen b2 c3
      have R3 : w3.rangeAt (w.heap.size + 1) 0 F.toList := range_below c3 (by omega) R2
      have zw_3 : w.heap.size + 1 + 1 < w3.heap.size := Nat.lt_of_lt_of_le zw_2 c3.size
      have zx_3 : w.heap.size < w3.heap.size := Nat.lt_of_lt_of_le zx_2 c3.size
      have x0_3 : w3.cell? ⟨w.heap.size, 0, none⟩ = some (.int .u8 k) := (c3.cell (p := ⟨w.heap.size, 0, none⟩) (by show w.heap.size < w2.heap.size; omega)).trans x0_2
      have x1_3 : w3.cell? ⟨w.heap.size, 1, none⟩ = some (.int .u8 s) := (c3.cell (p := ⟨w.heap.size, 1, none⟩) (by show w.heap.size < w2.heap.size; omega)).trans x1_2
      have x2_3 : w3.cell? ⟨w.heap.size, 2, none⟩ = some (.int .u8 t) := (c3.cell (p := ⟨w.heap.size, 2, none⟩) (by show w.heap.size < w2.heap.size; omega)).trans x2_2
      have y0_3 : w3.cell? ⟨w.heap.size + 1 + 1, 0, none⟩ = some (.int .u8 k) := (c3.cell (p := ⟨w.heap.size + 1 + 1, 0, none⟩) (by show w.heap.size + 1 + 1 < w2.heap.size; omega)).trans y0_2
      have y1_3 : w3.cell? ⟨w.heap.size + 1 + 1, 1, none⟩ = some (.int .u8 s) := (c3.cell (p := ⟨w.heap.size + 1 + 1, 1, none⟩) (by show w.heap.size + 1 + 1 < w2.heap.size; omega)).trans y1_2
      have y2_3 : w3.cell? ⟨w.heap.size + 1 + 1, 2, none⟩ = some (.int .u8 t) := (c3.cell (p := ⟨w.heap.size + 1 + 1, 2, none⟩) (by show w.heap.size + 1 + 1 < w2.heap.size; omega)).trans y2_2
      have o0_3 : w3.cell? ⟨w1.heap.size, 0, none⟩ = some (.int .u8 o1) := (c3.cell (p := ⟨w1.heap.size, 0, none⟩) (by show w1.heap.size < w2.heap.size; omega)).trans o0_2
      have o1_3 : w3.cell? ⟨w1.heap.size, 1, none⟩ = some (.int .u8 o2) := (c3.cell (p := ⟨w1.heap.size, 1, none⟩) (by show w1.heap.size < w2.heap.size; omega)).trans o1_2
      have o2_3 : w3.cell? ⟨w1.heap.size, 2, none⟩ = some (.int .u8 o3) := (c3.cell (p := ⟨w1.heap.size, 2, none⟩) (by show w1.heap.size < w2.heap.size; omega)).trans o2_2
      have zo_3 : w1.heap.size < w3.heap.size := Nat.lt_of_lt_of_le zo_2 c3.size
      have p0_3 : w3.cell? ⟨w2.heap.size, 0, none⟩ = some (.int .u8 o1) := (hb.cell (p := ⟨w2.heap.size, 0, none⟩) (by simp)).trans (by simp [go_sem])
      have p1_3 : w3.cell? ⟨w2.heap.size, 1, none⟩ = some (.int .u8 o2) := (hb.cell (p := ⟨w2.heap.size, 1, none⟩) (by simp)).trans (by simp [go_sem])
      have p2_3 : w3.cell? ⟨w2.heap.size, 2, none⟩ = some (.int .u8 o3) := (hb.cell (p := ⟨w2.heap.size, 2, none⟩) (by simp)).trans (by simp [go_sem])
      have zp_3 : w2.heap.size < w3.heap.size := by have := hb.size; simp at this; omega
      clear R2 zw_2 zx_2 b2 c3 hb x0_2 x1_2 x2_2 y0_2 y1_2 y2_2 o0_2 o1_2 o2_2 zo_2
      as_aux_lemma =>
        go_wp2_with (refine wpList_load_wide 29 _ rfl (by rfl) _ _ rfl F _ Tryd.underlying29 rfl Hi.out ?_ ?_; · (repeat (first | with_reducible assumption | (refine range_new' _ _ _ _ ?_; first | rfl | (simp; done)) | refine World.rangeAt_alloc ?_ _)))
        refine (rstep_is F k s t d kind typ _ _ _ h.out ht hd.out.1 HT.out Htb.out).mono ?_
        rintro e w4 ⟨rfl, hb⟩
        have c4 : Below w3.heap.size w3 w4 := bthen (by (repeat' (first | exact Below.refl _ _ | refine Below.alloc ?_ (by first | omega | (simp; done) | (simp; omega)) _))) hb
        have b4 : Below w.heap.size w w4 := bthen b3 c4
        have R4 : w4.rangeAt (w.heap.size + 1) 0 F.toList := range_below c4 (by omega) R3
        have zw_4 : w.heap.size + 1 + 1 < w4.heap.size := Nat.lt_of_lt_of_le zw_3 c4.size
        have zx_4 : w.heap.size < w4.heap.size := Nat.lt_of_lt_of_le zx_3 c4.size
        have x0_4 : w4.cell? ⟨w.heap.size, 0, none⟩ = some (.int .u8 k) := (c4.cell (p := ⟨w.heap.size, 0, none⟩) (by show w.heap.size < w3.heap.size; omega)).trans x0_3
        have x1_4 : w4.cell? ⟨w.heap.size, 1, none⟩ = some (.int .u8 s) := (c4.cell (p := ⟨w.heap.size, 1, none⟩) (by show w.heap.size < w3.heap.size; omega)).trans x1_3
        have x2_4 : w4.cell? ⟨w.heap.size, 2, none⟩ = some (.int .u8 t) := (c4.cell (p := ⟨w.heap.size, 2, none⟩) (by show w.heap.size < w3.heap.size; omega)).trans x2_3
        have y0_4 : w4.cell? ⟨w.heap.size + 1 + 1, 0, none⟩ = some (.int .u8 k) := (c4.cell (p := ⟨w.heap.size + 1 + 1, 0, none⟩) (by show w.heap.size + 1 + 1 < w3.heap.size; omega)).trans y0_3
        have y1_4 : w4.cell? ⟨w.heap.size + 1 + 1, 1, none⟩ = some (.int .u8 s) := (c4.cell (p := ⟨w.heap.size + 1 + 1, 1, none⟩) (by show w.heap.size + 1 + 1 < w3.heap.size; omega)).trans y1_3
        have y2_4 : w4.cell? ⟨w.heap.size + 1 + 1, 2, none⟩ = some (.int .u8 t) := (c4.cell (p := ⟨w.heap.size + 1 + 1, 2, none⟩) (by show w.heap.size + 1 + 1 < w3.heap.size; omega)).trans y2_3
        have o0_4 : w4.cell? ⟨w1.heap.size, 0, none⟩ = some (.int .u8 o1) := (c4.cell (p := ⟨w1.heap.size, 0, none⟩) (by show w1.heap.size < w3.heap.size; omega)).trans o0_3
        have o1_4 : w4.cell? ⟨w1.heap.size, 1, none⟩ = some (.int .u8 o2) := (c4.cell (p := ⟨w1.heap.size, 1, none⟩) (by show w1.heap.size < w3.heap.size; omega)).trans o1_3
        have o2_4 : w4.cell? ⟨w1.heap.size, 2, none⟩ = some (.int .u8 o3) := (c4.cell (p := ⟨w1.heap.size, 2, none⟩) (by show w1.heap.size < w3.heap.size; omega)).trans o2_3
        have zo_4 : w1.heap.size < w4.heap.size := Nat.lt_of_lt_of_le zo_3 c4.size
        have p0_4 : w4.cell? ⟨w2.heap.size, 0, none⟩ = some (.int .u8 o1) := (c4.cell (p := ⟨w2.heap.size, 0, none⟩) (by show w2.heap.size < w3.heap.size; omega)).trans p0_3
        have p1_4 : w4.cell? ⟨w2.heap.size, 1, none⟩ = some (.int .u8 o2) := (c4.cell (p := ⟨w2.heap.size, 1, none⟩) (by show w2.heap.size < w3.heap.size; omega)).trans p1_3
        have p2_4 : w4.cell? ⟨w2.heap.size, 2, none⟩ = some (.int .u8 o3) := (c4.cell (p := ⟨w2.heap.size, 2, none⟩) (by show w2.heap.size < w3.heap.size; omega)).trans p2_3
        have zp_4 : w2.heap.size < w4.heap.size := Nat.lt_of_lt_of_le zp_3 c4.size
        have u0_4 : w4.cell? ⟨w3.heap.size, 0, none⟩ = some (.int .u8 t1) := (hb.cell (p := ⟨w3.heap.size, 0, none⟩) (by simp)).trans (by simp [go_sem])
        have u1_4 : w4.cell? ⟨w3.heap.size, 1, none⟩ = some (.int .u8 t2) := (hb.cell (p := ⟨w3.heap.size, 1, none⟩) (by simp)).trans (by simp [go_sem])
        have u2_4 : w4.cell? ⟨w3.heap.size, 2, none⟩ = some (.int .u8 t3) := (hb.cell (p := ⟨w3.heap.size, 2, none⟩) (by simp)).trans (by simp [go_sem])
        have zu_4 : w3.heap.size < w4.heap.size := by have := hb.size; simp at this; omega
        clear R3 zw_3 zx_3 b3 c4 hb x0_3 x1_3 x2_3 y0_3 y1_3 y2_3 o0_3 o1_3 o2_3 p0_3 p1_3 p2_3 zo_3 zp_3
        as_aux_lemma =>
          go_wp2_with fail
          generalize hW : World.alloc w4 _ = W
          have hb0 : Below w.heap.size w W := by subst hW; exact b4.alloc b4.size _
          have f0 : W.cell? ⟨w.heap.size, 0, none⟩ = some (.int .u8 k) := by subst hW; exact kc ((Below.refl _ _).alloc (Nat.le_refl _) _) x0_4
          have f1 : W.cell? ⟨w.heap.size, 1, none⟩ = some (.int .u8 s) := by subst hW; exact kc ((Below.refl _ _).alloc (Nat.le_refl _) _) x1_4
          have f2 : W.cell? ⟨w.heap.size, 2, none⟩ = some (.int .u8 t) := by subst hW; exact kc ((Below.refl _ _).alloc (Nat.le_refl _) _) x2_4
          have f3 : W.cell? ⟨w.heap.size + 1 + 1, 0, none⟩ = some (.int .u8 k) := by subst hW; exact kc ((Below.refl _ _).alloc (Nat.le_refl _) _) y0_4
          have f4 : W.cell? ⟨w.heap.size + 1 + 1, 1, none⟩ = some (.int .u8 s) := by subst hW; exact kc ((Below.refl _ _).alloc (Nat.le_refl _) _) y1_4
          have f5 : W.cell? ⟨w.heap.size + 1 + 1, 2, none⟩ = some (.int .u8 t) := by subst hW; exact kc ((Below.refl _ _).alloc (Nat.le_refl _) _) y2_4
          have f6 : W.cell? ⟨w1.heap.size, 0, none⟩ = some (.int .u8 o1) := by subst hW; exact kc ((Below.refl _ _).alloc (Nat.le_refl _) _) o0_4
          have f7 : W.cell? ⟨w1.heap.size, 1, none⟩ = some (.int .u8 o2) := by subst hW; exact kc ((Below.refl _ _).alloc (Nat.le_refl _) _) o1_4
          have f8 : W.cell? ⟨w1.heap.size, 2, none⟩ = some (.int .u8 o3) := by subst hW; exact kc ((Below.refl _ _).alloc (Nat.le_refl _) _) o2_4
          have f9 : W.cell? ⟨w2.heap.size, 0, none⟩ = some (.int .u8 o1) := by subst hW; exact kc ((Below.refl _ _).alloc (Nat.le_refl _) _) p0_4
          have f10 : W.cell? ⟨w2.heap.size, 1, none⟩ = some (.int .u8 o2) := by subst hW; exact kc ((Below.refl _ _).alloc (Nat.le_refl _) _) p1_4
          have f11 : W.cell? ⟨w2.heap.size, 2, none⟩ = some (.int .u8 o3) := by subst hW; exact kc ((Below.refl _ _).alloc (Nat.le_refl _) _) p2_4
          have f12 : W.cell? ⟨w3.heap.size, 0, none⟩ = some (.int .u8 t1) := by subst hW; exact kc ((Below.refl _ _).alloc (Nat.le_refl _) _) u0_4
          have f13 : W.cell? ⟨w3.heap.size, 1, none⟩ = some (.int .u8 t2) := by subst hW; exact kc ((Below.refl _ _).alloc (Nat.le_refl _) _) u1_4
          have f14 : W.cell? ⟨w3.heap.size, 2, none⟩ = some (.int .u8 t3) := by subst hW; exact kc ((Below.refl _ _).alloc (Nat.le_refl _) _) u2_4
          have f15 : W.cell? ⟨w4.heap.size, 0, none⟩ = some (.int .u8 t1) := by subst hW; simp [go_sem]
          have f16 : W.cell? ⟨w4.heap.size, 1, none⟩ = some (.int .u8 t2) := by subst hW; simp [go_sem]
          have f17 : W.cell? ⟨w4.heap.size, 2, none⟩ = some (.int .u8 t3) := by subst hW; simp [go_sem]
          clear hW b4 R4 zw_4 zx_4 zo_4 zp_4 zu_4 x0_4 x1_4 x2_4 y0_4 y1_4 y2_4 o0_4 o1_4 o2_4 p0_4 p1_4 p2_4 u0_4 u1_4 u2_4
          go_region_held3 (fun w' => Below w.heap.size w w' ∧ w'.cell? ⟨w.heap.size, 0, none⟩ = some (.int .u8 k) ∧ w'.cell? ⟨w.heap.size, 1, none⟩ = some (.int .u8 s) ∧ w'.cell? ⟨w.heap.size, 2, none⟩ = some (.int .u8 t) ∧ w'.cell? ⟨w.heap.size + 1 + 1, 0, none⟩ = some (.int .u8 k) ∧ w'.cell? ⟨w.heap.size + 1 + 1, 1, none⟩ = some (.int .u8 s) ∧ w'.cell? ⟨w.heap.size + 1 + 1, 2, none⟩ = some (.int .u8 t) ∧ w'.cell? ⟨w1.heap.size, 0, none⟩ = some (.int .u8 o1) ∧ w'.cell? ⟨w1.heap.size, 1, none⟩ = some (.int .u8 o2) ∧ w'.cell? ⟨w1.heap.size, 2, none⟩ = some (.int .u8 o3) ∧ w'.cell? ⟨w2.heap.size, 0, none⟩ = some (.int .u8 o1) ∧ w'.cell? ⟨w2.heap.size, 1, none⟩ = some (.int .u8 o2) ∧ w'.cell? ⟨w2.heap.size, 2, none⟩ = some (.int .u8 o3) ∧ w'.cell? ⟨w3.heap.size, 0, none⟩ = some (.int .u8 t1) ∧ w'.cell? ⟨w3.heap.size, 1, none⟩ = some (.int .u8 t2) ∧ w'.cell? ⟨w3.heap.size, 2, none⟩ = some (.int .u8 t3) ∧ w'.cell? ⟨w4.heap.size, 0, none⟩ = some (.int .u8 t1) ∧ w'.cell? ⟨w4.heap.size, 1, none⟩ = some (.int .u8 t2) ∧ w'.cell? ⟨w4.heap.size, 2, none⟩ = some (.int .u8 t3)) (first | (exact ⟨hb0.drew, f0, f1, f2, f3, f4, f5, f6, f7, f8, f9, f10, f11, f12, f13, f14, f15, f16, f17⟩) | (go_split_ands; exact ⟨bthen (by assumption) hb, kc hb (by assumption), kc hb (by assumption), kc hb (by assumption), kc hb (by assumption), kc hb (by assumption), kc hb (by assumption), kc hb (by assumption), kc hb (by assumption), kc hb (by assumption), kc hb (by assumption), kc hb (by assumption), kc hb (by assumption), kc hb (by assumption), kc hb (by assumption), kc hb (by assumption), kc hb (by assumption), kc hb (by assumption), kc hb (by assumption)⟩)) (first | (go_at_call 16; refine (right_is k s t rb _ hk ht ?_ Hrb.out).mono ?_; (exact hA.out.below (by go_split_ands; assumption)); rintro e w' ⟨rfl, hb⟩) | (go_at_call 23; refine (rright_is k s t rb _ ht Hrb.out).mono ?_; rintro e w' ⟨rfl, hb⟩))
          go_split_ands
          go_wp2_with fail
          refine (name_is n ⟨#[]⟩ _ hm.out).mono ?_
          rintro e w' ⟨rfl, rfl⟩
          go_wp2_with fail
          go_ret
          exact ⟨by first | rfl | simp, by assumption⟩

set_option maxRecDepth 100000 in
set_option maxHeartbeats 4000000 in
theorem tells_yes (F : Array Value) (k s t d kind typ n a : Int) (w : World) (h : Hid (Fa F kind typ)) (hA : Hid (Ans w)) (hk : 0 ≤ k ∧ k ≤ 255) (ht : 0 ≤ t ∧ t ≤ 255) (hd : Hid (0 ≤ d ∧ d ≤ 255))
    (hn : Hid ((0 : Int) ≤ n ∧ (n : Int) ≤ 255)) (h1 : Hid (ans n = a ∧ isq n = true ∧ rans n = a)) (g1 : (n == 1) = false) (g2 : (n == 2) = false) (ha0 : 0 ≤ a) (ha1 : a ≤ 255) (hm : Hid (nme n = ⟨#[]⟩)) :
    Calls Tryd.prog 10 #[.agg #[.int .u8 k, .int .u8 s, .int .u8 t], .int .u8 d, .agg F, .int .u8 n] w fun e w' => e = .returned (.bool true) ∧ Below w.heap.size w w' := by
  have Hi := Lib.hid h.out.hi
  obtain ⟨O, hO⟩ : ∃ O, opn kind typ = O := ⟨_, rfl⟩
  obtain ⟨ob, hob⟩ : ∃ ob, opens kind typ = ob := ⟨_, rfl⟩
  obtain ⟨T, hT⟩ : ∃ T, stF k s t d kind typ = T := ⟨_, rfl⟩
  obtain ⟨tb, htb⟩ : ∃ tb, alw k s t d kind typ = tb := ⟨_, rfl⟩
  obtain ⟨rb, hrb⟩ : ∃ rb, rt k s t = rb := ⟨_, rfl⟩
  obtain ⟨o1, o2, o3⟩ := O
  obtain ⟨t1, t2, t3⟩ := T
  have HO := Lib.hid hO
  have Hob := Lib.hid hob
  have HT := Lib.hid hT
  have Htb := Lib.hid htb
  have Hrb := Lib.hid hrb
  clear hO hob hT htb hrb
  go_enter Tryd.func10, Tryd.ntmps10
  go_wp2_with fail
  refine (answer_is n a true _ hn.out.1 hn.out.2 (hA.out.below (by (repeat' (first | exact Below.refl _ _ | refine Below.alloc ?_ (by first | omega | (simp; done) | (simp; omega)) _)))) h1.out.1 h1.out.2.1).mono ?_
  rintro e w' ⟨rfl, rfl⟩
  go_wp2_with fail
  refine (ranswer_any n _ hn.out.1 hn.out.2).mono ?_
  rintro e w' ⟨he, rfl⟩
  rw [h1.out.2.2] at he
  subst he
  go_wp2_with (refine wpList_load_wide 29 _ rfl (by rfl) _ _ rfl F _ Tryd.underlying29 rfl Hi.out ?_ ?_; · (repeat (first | with_reducible assumption | (refine range_new' _ _ _ _ ?_; first | rfl | (simp; done)) | refine World.rangeAt_alloc ?_ _)))
  refine (open_is F kind typ _ _ _ h.out (hA.out.below (by (repeat' (first | exact Below.refl _ _ | refine Below.alloc ?_ (by first | omega | (simp; done) | (simp; omega)) _)))) HO.out Hob.out).mono ?_
  rintro e w1 ⟨rfl, hb⟩
  have b1 : Below w.heap.size w w1 := bthen (by (repeat' (first | exact Below.refl _ _ | refine Below.alloc ?_ (by first | omega | (simp; done) | (simp; omega)) _))) hb
  have R1 : w1.rangeAt (w.heap.size + 1) 0 F.toList := range_below hb (by first | (simp; done) | (simp; omega)) (by (repeat (first | (refine range_new' _ _ _ _ ?_; first | rfl | (simp; done)) | refine World.rangeAt_alloc ?_ _)))
  have zw_1 : w.heap.size + 1 + 1 < w1.heap.size := by have := hb.size; simp at this; omega
  have zx_1 : w.heap.size < w1.heap.size := by omega
  have x0_1 : w1.cell? ⟨w.heap.size, 0, none⟩ = some (.int .u8 k) := (hb.cell (p := ⟨w.heap.size, 0, none⟩) (by first | (simp; done) | (simp; omega))).trans (by simp [go_sem])
  have x1_1 : w1.cell? ⟨w.heap.size, 1, none⟩ = some (.int .u8 s) := (hb.cell (p := ⟨w.heap.size, 1, none⟩) (by first | (simp; done) | (simp; omega))).trans (by simp [go_sem])
  have x2_1 : w1.cell? ⟨w.heap.size, 2, none⟩ = some (.int .u8 t) := (hb.cell (p := ⟨w.heap.size, 2, none⟩) (by first | (simp; done) | (simp; omega))).trans (by simp [go_sem])
  have y0_1 : w1.cell? ⟨w.heap.size + 1 + 1, 0, none⟩ = some (.int .u8 k) := (hb.cell (p := ⟨w.heap.size + 1 + 1, 0, none⟩) (by first | (simp; done) | (simp; omega))).trans (by simp [go_sem])
  have y1_1 : w1.cell? ⟨w.heap.size + 1 + 1, 1, none⟩ = some (.int .u8 s) := (hb.cell (p := ⟨w.heap.size + 1 + 1, 1, none⟩) (by first | (simp; done) | (simp; omega))).trans (by simp [go_sem])
  have y2_1 : w1.cell? ⟨w.heap.size + 1 + 1, 2, none⟩ = some (.int .u8 t) := (hb.cell (p := ⟨w.heap.size + 1 + 1, 2, none⟩) (by first | (simp; done) | (simp; omega))).trans (by simp [go_sem])
  clear hb
  as_aux_lemma =>
    go_wp2_with (refine wpList_load_wide 29 _ rfl (by rfl) _ _ rfl F _ Tryd.underlying29 rfl Hi.out ?_ ?_; · (repeat (first | with_reducible assumption | (refine range_new' _ _ _ _ ?_; first | rfl | (simp; done)) | refine World.rangeAt_alloc ?_ _)))
    refine (ropen_is F kind typ _ _ _ h.out HO.out Hob.out).mono ?_
    rintro e w2 ⟨rfl, hb⟩
    have c2 : Below w1.heap.size w1 w2 := bthen (by (repeat' (first | exact Below.refl _ _ | refine Below.alloc ?_ (by first | omega | (simp; done) | (simp; omega)) _))) hb
    have b2 : Below w.heap.size w w2 := bthen b1 c2
    have R2 : w2.rangeAt (w.heap.size + 1) 0 F.toList := range_below c2 (by omega) R1
    have zw_2 : w.heap.size + 1 + 1 < w2.heap.size := Nat.lt_of_lt_of_le zw_1 c2.size
    have zx_2 : w.heap.size < w2.heap.size := Nat.lt_of_lt_of_le zx_1 c2.size
    have x0_2 : w2.cell? ⟨w.heap.size, 0, none⟩ = some (.int .u8 k) := (c2.cell (p := ⟨w.heap.size, 0, none⟩) (by show w.heap.size < w1.heap.size; omega)).trans x0_1
    have x1_2 : w2.cell? ⟨w.heap.size, 1, none⟩ = some (.int .u8 s) := (c2.cell (p := ⟨w.heap.size, 1, none⟩) (by show w.heap.size < w1.heap.size; omega)).trans x1_1
    have x2_2 : w2.cell? ⟨w.heap.size, 2, none⟩ = some (.int .u8 t) := (c2.cell (p := ⟨w.heap.size, 2, none⟩) (by show w.heap.size < w1.heap.size; omega)).trans x2_1
    have y0_2 : w2.cell? ⟨w.heap.size + 1 + 1, 0, none⟩ = some (.int .u8 k) := (c2.cell (p := ⟨w.heap.size + 1 + 1, 0, none⟩) (by show w.heap.size + 1 + 1 < w1.heap.size; omega)).trans y0_1
    have y1_2 : w2.cell? ⟨w.heap.size + 1 + 1, 1, none⟩ = some (.int .u8 s) := (c2.cell (p := ⟨w.heap.size + 1 + 1, 1, none⟩) (by show w.heap.size + 1 + 1 < w1.heap.size; omega)).trans y1_1
    have y2_2 : w2.cell? ⟨w.heap.size + 1 + 1, 2, none⟩ = some (.int .u8 t) := (c2.cell (p := ⟨w.heap.size + 1 + 1, 2, none⟩) (by show w.heap.size + 1 + 1 < w1.heap.size; omega)).trans y2_1
    have o0_2 : w2.cell? ⟨w1.heap.size, 0, none⟩ = some (.int .u8 o1) := (hb.cell (p := ⟨w1.heap.size, 0, none⟩) (by simp)).trans (by simp [go_sem])
    have o1_2 : w2.cell? ⟨w1.heap.size, 1, none⟩ = some (.int .u8 o2) := (hb.cell (p := ⟨w1.heap.size, 1, none⟩) (by simp)).trans (by simp [go_sem])
    have o2_2 : w2.cell? ⟨w1.heap.size, 2, none⟩ = some (.int .u8 o3) := (hb.cell (p := ⟨w1.heap.size, 2, none⟩) (by simp)).trans (by simp [go_sem])
    have zo_2 : w1.heap.size < w2.heap.size := by have := hb.size; simp at this; omega
    clear R1 zw_1 zx_1 b1 c2 hb x0_1 x1_1 x2_1 y0_1 y1_1 y2_1
    as_aux_lemma =>
      go_wp2_with (refine wpList_load_wide 29 _ rfl (by rfl) _ _ rfl F _ Tryd.underlying29 rfl Hi.out ?_ ?_; · (repeat (first | with_reducible assumption | (refine range_new' _ _ _ _ ?_; first | rfl | (simp; done)) | refine World.rangeAt_alloc ?_ _)))
      refine (step_is F k s t d kind typ _ _ _ h.out (hA.out.below (by (repeat' (first | with_reducible exact b2 | refine Below.alloc ?_ (by first | omega | (simp; done) | (simp; omega)) _)))) hk ht hd.out.1 HT.out Htb.out).mono ?_
      rintro e w3 ⟨rfl, hb⟩
      have c3 : Below w2.heap.size w2 w3 := bthen (by (repeat' (first | exact Below.refl _ _ | refine Below.alloc ?_ (by first | omega | (simp; done) | (simp; omega)) _))) hb
      have b3 : Below w.heap.size w w3 := bthen b2 c3
      have R3 : w3.rangeAt (w.heap.size + 1) 0 F.toList := range_below c3 (by omega) R2
      have zw_3 : w.heap.size + 1 + 1 < w3.heap.size := Nat.lt_of_lt_of_le zw_2 c3.size
      have zx_3 : w.heap.size < w3.heap.size := Nat.lt_of_lt_of_le zx_2 c3.size
      have x0_3 : w3.cell? ⟨w.heap.size, 0, none⟩ = some (.int .u8 k) := (c3.cell (p := ⟨w.heap.size, 0, none⟩) (by show w.heap.size < w2.heap.size; omega)).trans x0_2
      have x1_3 : w3.cell? ⟨w.heap.size, 1, none⟩ = some (.int .u8 s) := (c3.cell (p := ⟨w.heap.size, 1, none⟩) (by show w.heap.size < w2.heap.size; omega)).trans x1_2
      have x2_3 : w3.cell? ⟨w.heap.size, 2, none⟩ = some (.int .u8 t) := (c3.cell (p := ⟨w.heap.size, 2, none⟩) (by show w.heap.size < w2.heap.size; omega)).trans x2_2
      have y0_3 : w3.cell? ⟨w.heap.size + 1 + 1, 0, none⟩ = some (.int .u8 k) := (c3.cell (p := ⟨w.heap.size + 1 + 1, 0, none⟩) (by show w.heap.size + 1 + 1 < w2.heap.size; omega)).trans y0_2
      have y1_3 : w3.cell? ⟨w.heap.size + 1 + 1, 1, none⟩ = some (.int .u8 s) := (c3.cell (p := ⟨w.heap.size + 1 + 1, 1, none⟩) (by show w.heap.size + 1 + 1 < w2.heap.size; omega)).trans y1_2
      have y2_3 : w3.cell? ⟨w.heap.size + 1 + 1, 2, none⟩ = some (.int .u8 t) := (c3.cell (p := ⟨w.heap.size + 1 + 1, 2, none⟩) (by show w.heap.size + 1 + 1 < w2.heap.size; omega)).trans y2_2
      have o0_3 : w3.cell? ⟨w1.heap.size, 0, none⟩ = some (.int .u8 o1) := (c3.cell (p := ⟨w1.heap.size, 0, none⟩) (by show w1.heap.size < w2.heap.size; omega)).trans o0_2
      have o1_3 : w3.cell? ⟨w1.heap.size, 1, none⟩ = some (.int .u8 o2) := (c3.cell (p := ⟨w1.heap.size, 1, none⟩) (by show w1.heap.size < w2.heap.size; omega)).trans o1_2
      have o2_3 : w3.cell? ⟨w1.heap.size, 2, none⟩ = some (.int .u8 o3) := (c3.cell (p := ⟨w1.heap.size, 2, none⟩) (by show w1.heap.size < w2.heap.size; omega)).trans o2_2
      have zo_3 : w1.heap.size < w3.heap.size := Nat.lt_of_lt_of_le zo_2 c3.size
      have p0_3 : w3.cell? ⟨w2.heap.size, 0, none⟩ = some (.int .u8 o1) := (hb.cell (p := ⟨w2.heap.size, 0, none⟩) (by simp)).trans (by simp [go_sem])
      have p1_3 : w3.cell? ⟨w2.heap.size, 1, none⟩ = some (.int .u8 o2) := (hb.cell (p := ⟨w2.heap.size, 1, none⟩) (by simp)).trans (by simp [go_sem])
      have p2_3 : w3.cell? ⟨w2.heap.size, 2, none⟩ = some (.int .u8 o3) := (hb.cell (p := ⟨w2.heap.size, 2, none⟩) (by simp)).trans (by simp [go_sem])
      have zp_3 : w2.heap.size < w3.heap.size := by have := hb.size; simp at this; omega
      clear R2 zw_2 zx_2 b2 c3 hb x0_2 x1_2 x2_2 y0_2 y1_2 y2_2 o0_2 o1_2 o2_2 zo_2
      as_aux_lemma =>
        go_wp2_with (refine wpList_load_wide 29 _ rfl (by rfl) _ _ rfl F _ Tryd.underlying29 rfl Hi.out ?_ ?_; · (repeat (first | with_reducible assumption | (refine range_new' _ _ _ _ ?_; first | rfl | (simp; done)) | refine World.rangeAt_alloc ?_ _)))
        refine (rstep_is F k s t d kind typ _ _ _ h.out ht hd.out.1 HT.out Htb.out).mono ?_
        rintro e w4 ⟨rfl, hb⟩
        have c4 : Below w3.heap.size w3 w4 := bthen (by (repeat' (first | exact Below.refl _ _ | refine Below.alloc ?_ (by first | omega | (simp; done) | (simp; omega)) _))) hb
        have b4 : Below w.heap.size w w4 := bthen b3 c4
        have R4 : w4.rangeAt (w.heap.size + 1) 0 F.toList := range_below c4 (by omega) R3
        have zw_4 : w.heap.size + 1 + 1 < w4.heap.size := Nat.lt_of_lt_of_le zw_3 c4.size
        have zx_4 : w.heap.size < w4.heap.size := Nat.lt_of_lt_of_le zx_3 c4.size
        have x0_4 : w4.cell? ⟨w.heap.size, 0, none⟩ = some (.int .u8 k) := (c4.cell (p := ⟨w.heap.size, 0, none⟩) (by show w.heap.size < w3.heap.size; omega)).trans x0_3
        have x1_4 : w4.cell? ⟨w.heap.size, 1, none⟩ = some (.int .u8 s) := (c4.cell (p := ⟨w.heap.size, 1, none⟩) (by show w.heap.size < w3.heap.size; omega)).trans x1_3
        have x2_4 : w4.cell? ⟨w.heap.size, 2, none⟩ = some (.int .u8 t) := (c4.cell (p := ⟨w.heap.size, 2, none⟩) (by show w.heap.size < w3.heap.size; omega)).trans x2_3
        have y0_4 : w4.cell? ⟨w.heap.size + 1 + 1, 0, none⟩ = some (.int .u8 k) := (c4.cell (p := ⟨w.heap.size + 1 + 1, 0, none⟩) (by show w.heap.size + 1 + 1 < w3.heap.size; omega)).trans y0_3
        have y1_4 : w4.cell? ⟨w.heap.size + 1 + 1, 1, none⟩ = some (.int .u8 s) := (c4.cell (p := ⟨w.heap.size + 1 + 1, 1, none⟩) (by show w.heap.size + 1 + 1 < w3.heap.size; omega)).trans y1_3
        have y2_4 : w4.cell? ⟨w.heap.size + 1 + 1, 2, none⟩ = some (.int .u8 t) := (c4.cell (p := ⟨w.heap.size + 1 + 1, 2, none⟩) (by show w.heap.size + 1 + 1 < w3.heap.size; omega)).trans y2_3
        have o0_4 : w4.cell? ⟨w1.heap.size, 0, none⟩ = some (.int .u8 o1) := (c4.cell (p := ⟨w1.heap.size, 0, none⟩) (by show w1.heap.size < w3.heap.size; omega)).trans o0_3
        have o1_4 : w4.cell? ⟨w1.heap.size, 1, none⟩ = some (.int .u8 o2) := (c4.cell (p := ⟨w1.heap.size, 1, none⟩) (by show w1.heap.size < w3.heap.size; omega)).trans o1_3
        have o2_4 : w4.cell? ⟨w1.heap.size, 2, none⟩ = some (.int .u8 o3) := (c4.cell (p := ⟨w1.heap.size, 2, none⟩) (by show w1.heap.size < w3.heap.size; omega)).trans o2_3
        have zo_4 : w1.heap.size < w4.heap.size := Nat.lt_of_lt_of_le zo_3 c4.size
        have p0_4 : w4.cell? ⟨w2.heap.size, 0, none⟩ = some (.int .u8 o1) := (c4.cell (p := ⟨w2.heap.size, 0, none⟩) (by show w2.heap.size < w3.heap.size; omega)).trans p0_3
        have p1_4 : w4.cell? ⟨w2.heap.size, 1, none⟩ = some (.int .u8 o2) := (c4.cell (p := ⟨w2.heap.size, 1, none⟩) (by show w2.heap.size < w3.heap.size; omega)).trans p1_3
        have p2_4 : w4.cell? ⟨w2.heap.size, 2, none⟩ = some (.int .u8 o3) := (c4.cell (p := ⟨w2.heap.size, 2, none⟩) (by show w2.heap.size < w3.heap.size; omega)).trans p2_3
        have zp_4 : w2.heap.size < w4.heap.size := Nat.lt_of_lt_of_le zp_3 c4.size
        have u0_4 : w4.cell? ⟨w3.heap.size, 0, none⟩ = some (.int .u8 t1) := (hb.cell (p := ⟨w3.heap.size, 0, none⟩) (by simp)).trans (by simp [go_sem])
        have u1_4 : w4.cell? ⟨w3.heap.size, 1, none⟩ = some (.int .u8 t2) := (hb.cell (p := ⟨w3.heap.size, 1, none⟩) (by simp)).trans (by simp [go_sem])
        have u2_4 : w4.cell? ⟨w3.heap.size, 2, none⟩ = some (.int .u8 t3) := (hb.cell (p := ⟨w3.heap.size, 2, none⟩) (by simp)).trans (by simp [go_sem])
        have zu_4 : w3.heap.size < w4.heap.size := by have := hb.size; simp at this; omega
        clear R3 zw_3 zx_3 b3 c4 hb x0_3 x1_3 x2_3 y0_3 y1_3 y2_3 o0_3 o1_3 o2_3 p0_3 p1_3 p2_3 zo_3 zp_3
        as_aux_lemma =>
          go_wp2_with fail
          generalize hW : World.alloc w4 _ = W
          have hb0 : Below w.heap.size w W := by subst hW; exact b4.alloc b4.size _
          have f0 : W.cell? ⟨w.heap.size, 0, none⟩ = some (.int .u8 k) := by subst hW; exact kc ((Below.refl _ _).alloc (Nat.le_refl _) _) x0_4
          have f1 : W.cell? ⟨w.heap.size, 1, none⟩ = some (.int .u8 s) := by subst hW; exact kc ((Below.refl _ _).alloc (Nat.le_refl _) _) x1_4
          have f2 : W.cell? ⟨w.heap.size, 2, none⟩ = some (.int .u8 t) := by subst hW; exact kc ((Below.refl _ _).alloc (Nat.le_refl _) _) x2_4
          have f3 : W.cell? ⟨w.heap.size + 1 + 1, 0, none⟩ = some (.int .u8 k) := by subst hW; exact kc ((Below.refl _ _).alloc (Nat.le_refl _) _) y0_4
          have f4 : W.cell? ⟨w.heap.size + 1 + 1, 1, none⟩ = some (.int .u8 s) := by subst hW; exact kc ((Below.refl _ _).alloc (Nat.le_refl _) _) y1_4
          have f5 : W.cell? ⟨w.heap.size + 1 + 1, 2, none⟩ = some (.int .u8 t) := by subst hW; exact kc ((Below.refl _ _).alloc (Nat.le_refl _) _) y2_4
          have f6 : W.cell? ⟨w1.heap.size, 0, none⟩ = some (.int .u8 o1) := by subst hW; exact kc ((Below.refl _ _).alloc (Nat.le_refl _) _) o0_4
          have f7 : W.cell? ⟨w1.heap.size, 1, none⟩ = some (.int .u8 o2) := by subst hW; exact kc ((Below.refl _ _).alloc (Nat.le_refl _) _) o1_4
          have f8 : W.cell? ⟨w1.heap.size, 2, none⟩ = some (.int .u8 o3) := by subst hW; exact kc ((Below.refl _ _).alloc (Nat.le_refl _) _) o2_4
          have f9 : W.cell? ⟨w2.heap.size, 0, none⟩ = some (.int .u8 o1) := by subst hW; exact kc ((Below.refl _ _).alloc (Nat.le_refl _) _) p0_4
          have f10 : W.cell? ⟨w2.heap.size, 1, none⟩ = some (.int .u8 o2) := by subst hW; exact kc ((Below.refl _ _).alloc (Nat.le_refl _) _) p1_4
          have f11 : W.cell? ⟨w2.heap.size, 2, none⟩ = some (.int .u8 o3) := by subst hW; exact kc ((Below.refl _ _).alloc (Nat.le_refl _) _) p2_4
          have f12 : W.cell? ⟨w3.heap.size, 0, none⟩ = some (.int .u8 t1) := by subst hW; exact kc ((Below.refl _ _).alloc (Nat.le_refl _) _) u0_4
          have f13 : W.cell? ⟨w3.heap.size, 1, none⟩ = some (.int .u8 t2) := by subst hW; exact kc ((Below.refl _ _).alloc (Nat.le_refl _) _) u1_4
          have f14 : W.cell? ⟨w3.heap.size, 2, none⟩ = some (.int .u8 t3) := by subst hW; exact kc ((Below.refl _ _).alloc (Nat.le_refl _) _) u2_4
          have f15 : W.cell? ⟨w4.heap.size, 0, none⟩ = some (.int .u8 t1) := by subst hW; simp [go_sem]
          have f16 : W.cell? ⟨w4.heap.size, 1, none⟩ = some (.int .u8 t2) := by subst hW; simp [go_sem]
          have f17 : W.cell? ⟨w4.heap.size, 2, none⟩ = some (.int .u8 t3) := by subst hW; simp [go_sem]
          clear hW b4 R4 zw_4 zx_4 zo_4 zp_4 zu_4 x0_4 x1_4 x2_4 y0_4 y1_4 y2_4 o0_4 o1_4 o2_4 p0_4 p1_4 p2_4 u0_4 u1_4 u2_4
          go_region_held3 (fun w' => Below w.heap.size w w' ∧ w'.cell? ⟨w.heap.size, 0, none⟩ = some (.int .u8 k) ∧ w'.cell? ⟨w.heap.size, 1, none⟩ = some (.int .u8 s) ∧ w'.cell? ⟨w.heap.size, 2, none⟩ = some (.int .u8 t) ∧ w'.cell? ⟨w.heap.size + 1 + 1, 0, none⟩ = some (.int .u8 k) ∧ w'.cell? ⟨w.heap.size + 1 + 1, 1, none⟩ = some (.int .u8 s) ∧ w'.cell? ⟨w.heap.size + 1 + 1, 2, none⟩ = some (.int .u8 t) ∧ w'.cell? ⟨w1.heap.size, 0, none⟩ = some (.int .u8 o1) ∧ w'.cell? ⟨w1.heap.size, 1, none⟩ = some (.int .u8 o2) ∧ w'.cell? ⟨w1.heap.size, 2, none⟩ = some (.int .u8 o3) ∧ w'.cell? ⟨w2.heap.size, 0, none⟩ = some (.int .u8 o1) ∧ w'.cell? ⟨w2.heap.size, 1, none⟩ = some (.int .u8 o2) ∧ w'.cell? ⟨w2.heap.size, 2, none⟩ = some (.int .u8 o3) ∧ w'.cell? ⟨w3.heap.size, 0, none⟩ = some (.int .u8 t1) ∧ w'.cell? ⟨w3.heap.size, 1, none⟩ = some (.int .u8 t2) ∧ w'.cell? ⟨w3.heap.size, 2, none⟩ = some (.int .u8 t3) ∧ w'.cell? ⟨w4.heap.size, 0, none⟩ = some (.int .u8 t1) ∧ w'.cell? ⟨w4.heap.size, 1, none⟩ = some (.int .u8 t2) ∧ w'.cell? ⟨w4.heap.size, 2, none⟩ = some (.int .u8 t3)) (first | (exact ⟨hb0.drew, f0, f1, f2, f3, f4, f5, f6, f7, f8, f9, f10, f11, f12, f13, f14, f15, f16, f17⟩) | (go_split_ands; exact ⟨bthen (by assumption) hb, kc hb (by assumption), kc hb (by assumption), kc hb (by assumption), kc hb (by assumption), kc hb (by assumption), kc hb (by assumption), kc hb (by assumption), kc hb (by assumption), kc hb (by assumption), kc hb (by assumption), kc hb (by assumption), kc hb (by assumption), kc hb (by assumption), kc hb (by assumption), kc hb (by assumption), kc hb (by assumption), kc hb (by assumption), kc hb (by assumption)⟩)) (first | (go_at_call 16; refine (right_is k s t rb _ hk ht ?_ Hrb.out).mono ?_; (exact hA.out.below (by go_split_ands; assumption)); rintro e w' ⟨rfl, hb⟩) | (go_at_call 23; refine (rright_is k s t rb _ ht Hrb.out).mono ?_; rintro e w' ⟨rfl, hb⟩))
          go_split_ands
          go_wp2_with fail
          refine (name_is n ⟨#[]⟩ _ hm.out).mono ?_
          rintro e w' ⟨rfl, rfl⟩
          go_wp2_with fail
          go_ret
          exact ⟨by first | rfl | simp, by assumption⟩

theorem tells_any (F : Array Value) (k s t d kind typ n : Int) (w : World) (h : Fa F kind typ) (hA : Ans w) (hk : 0 ≤ k ∧ k ≤ 255) (ht : 0 ≤ t ∧ t ≤ 255) (hd : 0 ≤ d ∧ d ≤ 255) (hn : 0 ≤ n ∧ n ≤ 255) :
    Calls Tryd.prog 10 #[.agg #[.int .u8 k, .int .u8 s, .int .u8 t], .int .u8 d, .agg F, .int .u8 n] w fun e w' => e = .returned (.bool true) ∧ Below w.heap.size w w' := by
  cases hq : isq n
  · have e1 : ans n = 0 := by
      simp [isq] at hq
      simp [ans, hq]
    have e2 : rans n = -1 := by simp [rans, hq]
    by_cases h1 : n = 1
    · subst h1
      exact tells_no1 F k s t d kind typ w h hA hk ht hd hn ⟨e1, hq, e2⟩ rfl
    by_cases h2 : n = 2
    · subst h2
      exact tells_no2 F k s t d kind typ w h hA hk ht hd hn ⟨e1, hq, e2⟩ rfl
    exact tells_no F k s t d kind typ n w h hA hk ht hd hn ⟨e1, hq, e2⟩ (by simpa using h1) (by simpa using h2) (show nme n = _ by simp [nme, h1, h2])
  · have e2 : rans n = ans n := by simp [rans, hq]
    have h1 : ¬ n = 1 := by rintro rfl; exact absurd hq (by decide)
    have h2 : ¬ n = 2 := by rintro rfl; exact absurd hq (by decide)
    have e3 : 0 ≤ ans n ∧ ans n ≤ 255 := by
      unfold ans
      split
      · decide
      · split <;> decide
    exact tells_yes F k s t d kind typ n (ans n) w h hA hk ht hd hn ⟨rfl, hq, e2⟩ (by simpa using h1) (by simpa using h2) e3.1 e3.2 (show nme n = _ by simp [nme, h1, h2])

set_option maxHeartbeats 1000000 in
theorem streamTells_walk (k s t d : Int) (F : Array Value) (kind typ n : Int) (w : World) (hA : Ans w) (hx : (0 ≤ k ∧ k ≤ 255) ∧ (0 ≤ s ∧ s ≤ 255) ∧ (0 ≤ t ∧ t ≤ 255)) (hd : 0 ≤ d ∧ d ≤ 255) (h : Fa F kind typ) (hn : 0 ≤ n ∧ n ≤ 255) :
    Calls Tryd.prog 3 #[.agg #[.int .u8 k, .int .u8 s, .int .u8 t], .int .u8 d, .agg F, .int .u8 n] w fun e w' => e = .returned (.bool true) ∧ Below w.heap.size w w' := by
  obtain ⟨hk, _, ht⟩ := hx
  have Hi := Lib.hid h.hi
  have Hh := Lib.hid h
  have HA := Lib.hid hA
  clear h hA
  go_enter Tryd.func3, Tryd.ntmps3
  go_wp2_with (refine wpList_load_wide 29 _ rfl (by rfl) _ _ rfl F _ Tryd.underlying29 rfl Hi.out ?_ ?_; · (repeat (first | with_reducible assumption | (refine range_new' _ _ _ _ ?_; first | rfl | (simp; done)) | refine World.rangeAt_alloc ?_ _)))
  refine (tells_any F k s t d kind typ n _ Hh.out (HA.out.below (by (repeat' (first | exact Below.refl _ _ | refine Below.alloc ?_ (by first | omega | (simp; done) | (simp; omega)) _)))) hk ht hd hn).mono ?_
  rintro e w1 ⟨rfl, hb⟩
  have b1 : Below w.heap.size w w1 := bthen (by (repeat' (first | exact Below.refl _ _ | refine Below.alloc ?_ (by first | omega | (simp; done) | (simp; omega)) _))) hb
  clear hb
  go_wp2_with fail
  refine (awake_any _ (HA.out.below b1)).mono ?_
  rintro e w2 ⟨rfl, hb⟩
  go_wp2_with fail
  go_ret
  exact ⟨rfl, bthen b1 hb⟩

end Go.Proofs.YtjmcpgagbjmfgaaDoor
