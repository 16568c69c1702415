/-
  The walk of RelatedBelongs: an error belongs to a flow just if it quotes a packet of it, goes to the sender of this packet, and comes from the side to which the packet went.
-/
import Derived.Test.YtapeminpgojeaaaDoorQuot
namespace Go.Proofs.YtapeminpgojeaaaDoor
open Go.RowKit
set_option linter.unusedVariables false
set_option linter.unusedSimpArgs false

theorem rcell' {W : World} {b j : Nat} {l : List Value} {v : Value} (h : W.rangeAt b 0 l) (hj : l[j]? = some v) : W.cell? ⟨b, j, none⟩ = some v := by
  have := h j v hj
  rwa [Nat.zero_add] at this
theorem tfree {W : World} {b n : Nat} (h : W.there b 0 n) (j : Nat) (hj : j < n) : W.frozen? ⟨b, j, none⟩ = false := by
  have := (h j hj).2
  rwa [Nat.zero_add] at this
/-- An error, told by what is read of it. -/
def gF (dst kind ty k0 k1 k2 k3 k4 kv by' : Int) : Array Value := #[.int .u8 1, .int .u32 by', .int .u32 dst, .int .u16 0, .int .u16 0, .int .u8 kind, .int .u8 0, .int .u8 ty, .int .u8 0, .int .u32 0, .int .u32 0, .int .i64 0, .int .i64 0, .int .u8 k0, .int .u32 k1, .int .u32 k2, .int .u16 k3, .int .u16 k4, .int .u8 kv]
theorem fa_gF (dst kind ty k0 k1 k2 k3 k4 kv by' : Int) (b1 : 0 ≤ kind ∧ kind ≤ 255) (b2 : 0 ≤ ty ∧ ty ≤ 255) (b3 : 0 ≤ k0 ∧ k0 ≤ 255) (b4 : 0 ≤ kv ∧ kv ≤ 255) (b5 : 0 ≤ dst ∧ dst ≤ 4294967295) (b6 : 0 ≤ k1 ∧ k1 ≤ 4294967295) (b7 : 0 ≤ k2 ∧ k2 ≤ 4294967295) (b8 : 0 ≤ k3 ∧ k3 ≤ 65535) (b9 : 0 ≤ k4 ∧ k4 ≤ 65535) :
    Fa (gF dst kind ty k0 k1 k2 k3 k4 kv by') dst kind ty k0 k1 k2 k3 k4 kv :=
  ⟨rfl, by simp [gF, Value.oneCell'], rfl, rfl, rfl, rfl, rfl, rfl, rfl, rfl, rfl, b1, b2, b3, b4, b5, b6, b7, b8, b9⟩
theorem hi_gF (dst kind ty k0 k1 k2 k3 k4 kv by' : Int) : (Tryd.prog.info? 29).map (·.size) = some (gF dst kind ty k0 k1 k2 k3 k4 kv by').toList.length := by rw [info29]; rfl
theorem ho_gF (dst kind ty k0 k1 k2 k3 k4 kv by' : Int) : (gF dst kind ty k0 k1 k2 k3 k4 kv by').all (·.oneCell') = true := by simp [gF, Value.oneCell']
theorem key_neq (p s d sp dp : Int) (W : World) : (binOp .neq 25 (.agg #[.int .u8 p, .int .u32 s, .int .u32 d, .int .u16 sp, .int .u16 dp]) (.agg #[.int .u8 p, .int .u32 s, .int .u32 d, .int .u16 sp, .int .u16 dp])).run Tryd.prog W = .ok (.bool false) W := by
  go_simp
theorem quoting_hit (p s d sp dp side dir by' : Int) (w : World) (hT : Tabs w) (hp : 0 ≤ p ∧ p ≤ 255) (hs : 0 ≤ side ∧ side ≤ 1) (hd : 0 ≤ dir ∧ dir ≤ 255) (hb : 0 ≤ by' ∧ by' ≤ 4294967295) (k1 k2 k3 k4 fr q1 ty : Int) (hq : dir % 2 = q1)
    (hk : q1 = 0 ∧ s = k1 ∧ d = k2 ∧ sp = k3 ∧ dp = k4 ∧ 1 - side = fr ∨ q1 = 1 ∧ d = k1 ∧ s = k2 ∧ dp = k3 ∧ sp = k4 ∧ side = fr) (ht : by' % 3 = 0 ∧ ty = 3 ∨ by' % 3 = 1 ∧ ty = 11 ∨ by' % 3 = 2 ∧ ty = 12) :
    Calls Tryd.prog 14 #[.agg #[.int .u8 p, .int .u32 s, .int .u32 d, .int .u16 sp, .int .u16 dp, .int .u8 side], .int .u8 dir, .int .u32 by'] w fun e w' => e = .returned (.tuple #[.agg (gF k1 5 ty p k1 k2 k3 k4 (kd p q1) by'), .int .u8 fr, .bool (kok p q1)]) ∧ Below w.heap.size w w' := by
  have h0 : side % 2 = side := by omega
  have h0' : side.tmod 2 = side := by rw [Int.tmod_eq_emod_of_nonneg hs.1]; exact h0
  have h1' : dir.tmod 2 = q1 := by rw [Int.tmod_eq_emod_of_nonneg hd.1]; exact hq
  have h3' : by'.tmod 3 = by' % 3 := by rw [Int.tmod_eq_emod_of_nonneg hb.1]
  have hi : ∀ W, (Instr.index 57 (.agg #[.int .u8 3, .int .u8 11, .int .u8 12]) (.int .u32 (by' % 3))).run Tryd.prog W = .ok (.int .u8 ty) W := by
    intro W
    rcases ht with ⟨h, rfl⟩ | ⟨h, rfl⟩ | ⟨h, rfl⟩ <;> rw [h] <;> kernel_rfl
  exact quoting_core p s d sp dp side dir by' side q1 (by' % 3) ty w hT hp hs.1 hs.2 hs.1 (by omega) hd.1 hd.2 hb.1 hb.2 h0 h0' hq h1' rfl h3' hi k1 k2 k3 k4 fr hk

set_option maxRecDepth 100000 in
set_option maxHeartbeats 16000000 in
theorem belongs_0 (p s d sp dp side dir by' way : Int) (P S E q0 c0 c1 c2 c3 c4 ty kv fr q1 : Int) (w : World) (HT : Hid (Tabs w))
    (HR : Hid (∀ W, Calls Tryd.prog 13 #[.agg #[.int .u8 p, .int .u32 s, .int .u32 d, .int .u16 sp, .int .u16 dp], .int .u8 side] W fun e w' => e = .returned (.agg #[.int .u8 P, .int .u32 S, .int .u32 E, .int .u16 sp, .int .u16 dp, .int .u8 q0]) ∧ Below W.heap.size W w'))
    (HG : Hid (∀ W, Tabs W → Calls Tryd.prog 14 #[.agg #[.int .u8 P, .int .u32 S, .int .u32 E, .int .u16 sp, .int .u16 dp, .int .u8 q0], .int .u8 dir, .int .u32 by'] W fun e w' => e = .returned (.tuple #[.agg (gF c1 5 ty c0 c1 c2 c3 c4 kv by'), .int .u8 fr, .bool true]) ∧ Below W.heap.size W w'))
    (hP : Hid (0 ≤ P ∧ P ≤ 255)) (hq0 : Hid (0 ≤ q0)) (hfr : 0 ≤ fr) (hfr1 : fr ≤ 1) (hk2 : 0 ≤ c2) (hk2' : c2 ≤ 4294967295) (hk3 : 0 ≤ c3) (hk3' : c3 ≤ 65535) (hk4 : 0 ≤ c4) (hk4' : c4 ≤ 65535) (hdir : 0 ≤ dir) (hdir' : dir ≤ 255) (hway : 0 ≤ way) (hway' : way ≤ 255)
    (HF : Hid (Fa (gF c1 5 ty c0 c1 c2 c3 c4 kv by') c1 5 ty c0 c1 c2 c3 c4 kv)) (HGF : Hid (Fa (gF c1 5 ty c0 c1 c2 c3 c4 kv by') c1 5 ty c0 c1 c2 c3 c4 kv)) (Hyes : Hid (quo P S E sp dp q0 c1 5 ty c0 c1 c2 c3 c4 kv fr = (q1, true))) (Hcan : Hid (can c1 5 ty c0 c1 kv = true)) (Hno : Hid (quo P S E sp dp q0 c1 5 ty c0 c1 c2 c3 c4 kv (1 - fr) = (0, false)))
    (HQ1 : Hid (dir % 2 = q1)) (HQ1' : Hid (dir.tmod 2 = q1)) (HW : Hid (way % 9 = 0)) (HW' : Hid (way.tmod 9 = 0)) :
    Calls Tryd.prog 4 #[.agg #[.int .u8 p, .int .u32 s, .int .u32 d, .int .u16 sp, .int .u16 dp], .int .u8 side, .int .u8 dir, .int .u32 by', .int .u8 way] w fun e w' => e = .returned (.bool true) ∧ Below w.heap.size w w' := by
  have H5 := Lib.hid (fun W (hW : Tabs W) => quotes_is (gF c1 5 ty c0 c1 c2 c3 c4 kv by') P S E sp dp q0 c1 5 ty c0 c1 c2 c3 c4 kv fr q1 true W HF.out hW hP.out hq0.out hfr Hyes.out)
  have HLk := Lib.hid (fun W (hW : Tabs W) => lookup_below (gF c1 5 ty c0 c1 c2 c3 c4 kv by') c1 5 ty c0 c1 c2 c3 c4 kv W HF.out hW)
  rw [Hcan.out] at HLk
  simp only [pk, if_true] at HLk
  have H8 := Lib.hid (fun W (hW : Tabs W) => quotes_is (gF c1 5 ty c0 c1 c2 c3 c4 kv by') P S E sp dp q0 c1 5 ty c0 c1 c2 c3 c4 kv (1 - fr) 0 false W HGF.out hW hP.out hq0.out (by omega) Hno.out)
  clear HF HGF Hyes Hcan Hno hP hq0
  go_enter Tryd.func4, Tryd.ntmps4
  go_wp2_with fail
  refine (awake_any _ (HT.out.below (by (repeat' (first | exact Below.refl _ _ | refine Below.setCell ?_ (by first | omega | (simp; done) | (simp; omega)) _ | refine Below.alloc ?_ (by first | omega | (simp; done) | (simp; omega)) _))))).mono ?_
  rintro e w1 ⟨rfl, hb⟩
  have b1 : Below w.heap.size w w1 := bthen (by (repeat' (first | exact Below.refl _ _ | refine Below.setCell ?_ (by first | omega | (simp; done) | (simp; omega)) _ | refine Below.alloc ?_ (by first | omega | (simp; done) | (simp; omega)) _))) hb
  have d1 : Below w.heap.size w w1 := b1
  have k1 : w.heap.size ≤ w1.heap.size := d1.size
  have x0_1 : w1.cell? ⟨w.heap.size, 0, none⟩ = some (.int .u8 p) := (hb.cell (p := ⟨w.heap.size, 0, none⟩) (by first | (simp; done) | (simp; omega))).trans (by simp [go_sem])
  have x1_1 : w1.cell? ⟨w.heap.size, 1, none⟩ = some (.int .u32 s) := (hb.cell (p := ⟨w.heap.size, 1, none⟩) (by first | (simp; done) | (simp; omega))).trans (by simp [go_sem])
  have x2_1 : w1.cell? ⟨w.heap.size, 2, none⟩ = some (.int .u32 d) := (hb.cell (p := ⟨w.heap.size, 2, none⟩) (by first | (simp; done) | (simp; omega))).trans (by simp [go_sem])
  have x3_1 : w1.cell? ⟨w.heap.size, 3, none⟩ = some (.int .u16 sp) := (hb.cell (p := ⟨w.heap.size, 3, none⟩) (by first | (simp; done) | (simp; omega))).trans (by simp [go_sem])
  have x4_1 : w1.cell? ⟨w.heap.size, 4, none⟩ = some (.int .u16 dp) := (hb.cell (p := ⟨w.heap.size, 4, none⟩) (by first | (simp; done) | (simp; omega))).trans (by simp [go_sem])
  have zx_1 : w.heap.size < w1.heap.size := by have := hb.size; simp at this; omega
  clear hb
  go_wp2_with fail
  refine (HR.out _).mono ?_
  rintro e w2 ⟨rfl, hb⟩
  have b2 : Below w1.heap.size w1 w2 := bthen (by (repeat' (first | exact Below.refl _ _ | refine Below.setCell ?_ (by first | omega | (simp; done) | (simp; omega)) _ | refine Below.alloc ?_ (by first | omega | (simp; done) | (simp; omega)) _))) hb
  have d2 : Below w.heap.size w w2 := bthen d1 b2
  have k2 : w.heap.size ≤ w2.heap.size := d2.size
  have x0_2 : w2.cell? ⟨w.heap.size, 0, none⟩ = some (.int .u8 p) := (b2.cell (p := ⟨w.heap.size, 0, none⟩) (by show w.heap.size < w1.heap.size; omega)).trans x0_1
  have x1_2 : w2.cell? ⟨w.heap.size, 1, none⟩ = some (.int .u32 s) := (b2.cell (p := ⟨w.heap.size, 1, none⟩) (by show w.heap.size < w1.heap.size; omega)).trans x1_1
  have x2_2 : w2.cell? ⟨w.heap.size, 2, none⟩ = some (.int .u32 d) := (b2.cell (p := ⟨w.heap.size, 2, none⟩) (by show w.heap.size < w1.heap.size; omega)).trans x2_1
  have x3_2 : w2.cell? ⟨w.heap.size, 3, none⟩ = some (.int .u16 sp) := (b2.cell (p := ⟨w.heap.size, 3, none⟩) (by show w.heap.size < w1.heap.size; omega)).trans x3_1
  have x4_2 : w2.cell? ⟨w.heap.size, 4, none⟩ = some (.int .u16 dp) := (b2.cell (p := ⟨w.heap.size, 4, none⟩) (by show w.heap.size < w1.heap.size; omega)).trans x4_1
  have zx_2 : w.heap.size < w2.heap.size := Nat.lt_of_lt_of_le zx_1 b2.size
  clear hb b2 d1 k1 x0_1 x1_1 x2_1 x3_1 x4_1 zx_1
  clear x0_2 x1_2 x2_2 x3_2 x4_2 zx_2
  go_wp2_with fail
  refine (HG.out _ (HT.out.below (by (repeat' (first | with_reducible exact d2 | refine Below.setCell ?_ (by first | omega | (simp; done) | (simp; omega)) _ | refine Below.alloc ?_ (by first | omega | (simp; done) | (simp; omega)) _))))).mono ?_
  rintro e w3 ⟨rfl, hb⟩
  have b3 : Below w2.heap.size w2 w3 := bthen (by (repeat' (first | exact Below.refl _ _ | refine Below.setCell ?_ (by first | omega | (simp; done) | (simp; omega)) _ | refine Below.alloc ?_ (by first | omega | (simp; done) | (simp; omega)) _))) hb
  have d3 : Below w.heap.size w w3 := bthen d2 b3
  have k3 : w.heap.size ≤ w3.heap.size := d3.size
  have f0_3 : w3.cell? ⟨w2.heap.size, 0, none⟩ = some (.int .u8 P) := (hb.cell (p := ⟨w2.heap.size, 0, none⟩) (by first | (simp; done) | (simp; omega))).trans (by simp [go_sem])
  have f1_3 : w3.cell? ⟨w2.heap.size, 1, none⟩ = some (.int .u32 S) := (hb.cell (p := ⟨w2.heap.size, 1, none⟩) (by first | (simp; done) | (simp; omega))).trans (by simp [go_sem])
  have f2_3 : w3.cell? ⟨w2.heap.size, 2, none⟩ = some (.int .u32 E) := (hb.cell (p := ⟨w2.heap.size, 2, none⟩) (by first | (simp; done) | (simp; omega))).trans (by simp [go_sem])
  have f3_3 : w3.cell? ⟨w2.heap.size, 3, none⟩ = some (.int .u16 sp) := (hb.cell (p := ⟨w2.heap.size, 3, none⟩) (by first | (simp; done) | (simp; omega))).trans (by simp [go_sem])
  have f4_3 : w3.cell? ⟨w2.heap.size, 4, none⟩ = some (.int .u16 dp) := (hb.cell (p := ⟨w2.heap.size, 4, none⟩) (by first | (simp; done) | (simp; omega))).trans (by simp [go_sem])
  have f5_3 : w3.cell? ⟨w2.heap.size, 5, none⟩ = some (.int .u8 q0) := (hb.cell (p := ⟨w2.heap.size, 5, none⟩) (by first | (simp; done) | (simp; omega))).trans (by simp [go_sem])
  have zf_3 : w2.heap.size < w3.heap.size := by have := hb.size; simp at this; omega
  clear hb b3 d2 k2
  go_wp2_with (first | (refine wpList_store_wide 29 (.tmp 12) (.tmp 31) rfl rfl w3.heap.size 0 (gF c1 5 ty c0 c1 c2 c3 c4 kv by') rfl rfl w.heap.size w (hi_gF c1 5 ty c0 c1 c2 c3 c4 kv by') (ho_gF c1 5 ty c0 c1 c2 c3 c4 kv by') ?_ (by omega) ?_ ?_; (· (repeat' (first | with_reducible exact d3 | refine Below.setCell ?_ (by first | omega | (simp; done) | (simp; omega)) _ | refine Below.alloc ?_ (by first | omega | (simp; done) | (simp; omega)) _))); (· (repeat (first | (refine there_new _ _ _ _ _ ?_ rfl; first | rfl | (simp; done)) | refine World.there_alloc ?_ _))); intro V d10 hzV R_10 kV tV hcV; have f0_10 : V.cell? ⟨w2.heap.size, 0, none⟩ = some (.int .u8 P) := (hcV w2.heap.size 0 (by omega)).trans (by simp [go_sem, f0_3, zf_3]); have f1_10 : V.cell? ⟨w2.heap.size, 1, none⟩ = some (.int .u32 S) := (hcV w2.heap.size 1 (by omega)).trans (by simp [go_sem, f1_3, zf_3]); have f2_10 : V.cell? ⟨w2.heap.size, 2, none⟩ = some (.int .u32 E) := (hcV w2.heap.size 2 (by omega)).trans (by simp [go_sem, f2_3, zf_3]); have f3_10 : V.cell? ⟨w2.heap.size, 3, none⟩ = some (.int .u16 sp) := (hcV w2.heap.size 3 (by omega)).trans (by simp [go_sem, f3_3, zf_3]); have f4_10 : V.cell? ⟨w2.heap.size, 4, none⟩ = some (.int .u16 dp) := (hcV w2.heap.size 4 (by omega)).trans (by simp [go_sem, f4_3, zf_3]); have f5_10 : V.cell? ⟨w2.heap.size, 5, none⟩ = some (.int .u8 q0) := (hcV w2.heap.size 5 (by omega)).trans (by simp [go_sem, f5_3, zf_3]); have zf_10 : w2.heap.size < V.heap.size := (by rw [hzV]; simp; omega); have zR_10 : w3.heap.size < V.heap.size := (by rw [hzV]; simp); clear hcV hzV kV tV) | (refine wpList_load_wide 29 _ rfl (by rfl) _ _ rfl (gF c1 5 ty c0 c1 c2 c3 c4 kv by') _ Tryd.underlying29 rfl (hi_gF c1 5 ty c0 c1 c2 c3 c4 kv by') ?_ ?_; · (repeat (first | with_reducible exact R_10 | refine World.rangeAt_alloc ?_ _))))
  have k10 : w.heap.size ≤ V.heap.size := d10.size
  have nfR : w2.heap.size < w3.heap.size := zf_3
  clear f0_3 f1_3 f2_3 f3_3 f4_3 f5_3 zf_3 d3
  refine (H5.out _ (HT.out.below (by (repeat' (first | with_reducible exact d10 | refine Below.setCell ?_ (by first | omega | (simp; done) | (simp; omega)) _ | refine Below.alloc ?_ (by first | omega | (simp; done) | (simp; omega)) _))))).mono ?_
  rintro e w11 ⟨rfl, hb⟩
  have b11 : Below V.heap.size V w11 := bthen (by (repeat' (first | exact Below.refl _ _ | refine Below.setCell ?_ (by first | omega | (simp; done) | (simp; omega)) _ | refine Below.alloc ?_ (by first | omega | (simp; done) | (simp; omega)) _))) hb
  have d11 : Below w.heap.size w w11 := bthen d10 b11
  have k11 : w.heap.size ≤ w11.heap.size := d11.size
  have R_11 : w11.rangeAt (w3.heap.size) 0 ((gF c1 5 ty c0 c1 c2 c3 c4 kv by')).toList := range_below b11 (by omega) R_10
  have zR_11 : w3.heap.size < w11.heap.size := Nat.lt_of_lt_of_le zR_10 b11.size
  have f0_11 : w11.cell? ⟨w2.heap.size, 0, none⟩ = some (.int .u8 P) := (b11.cell (p := ⟨w2.heap.size, 0, none⟩) (by show w2.heap.size < V.heap.size; omega)).trans f0_10
  have f1_11 : w11.cell? ⟨w2.heap.size, 1, none⟩ = some (.int .u32 S) := (b11.cell (p := ⟨w2.heap.size, 1, none⟩) (by show w2.heap.size < V.heap.size; omega)).trans f1_10
  have f2_11 : w11.cell? ⟨w2.heap.size, 2, none⟩ = some (.int .u32 E) := (b11.cell (p := ⟨w2.heap.size, 2, none⟩) (by show w2.heap.size < V.heap.size; omega)).trans f2_10
  have f3_11 : w11.cell? ⟨w2.heap.size, 3, none⟩ = some (.int .u16 sp) := (b11.cell (p := ⟨w2.heap.size, 3, none⟩) (by show w2.heap.size < V.heap.size; omega)).trans f3_10
  have f4_11 : w11.cell? ⟨w2.heap.size, 4, none⟩ = some (.int .u16 dp) := (b11.cell (p := ⟨w2.heap.size, 4, none⟩) (by show w2.heap.size < V.heap.size; omega)).trans f4_10
  have f5_11 : w11.cell? ⟨w2.heap.size, 5, none⟩ = some (.int .u8 q0) := (b11.cell (p := ⟨w2.heap.size, 5, none⟩) (by show w2.heap.size < V.heap.size; omega)).trans f5_10
  have zf_11 : w2.heap.size < w11.heap.size := Nat.lt_of_lt_of_le zf_10 b11.size
  clear hb b11 d10 k10 R_10 zR_10 f0_10 f1_10 f2_10 f3_10 f4_10 f5_10 zf_10
  go_wp2_with (refine wpList_load_wide 29 _ rfl (by rfl) _ _ rfl (gF c1 5 ty c0 c1 c2 c3 c4 kv by') _ Tryd.underlying29 rfl (hi_gF c1 5 ty c0 c1 c2 c3 c4 kv by') ?_ ?_; · (repeat (first | with_reducible exact R_11 | refine World.rangeAt_alloc ?_ _)))
  refine (HLk.out _ (HT.out.below (by (repeat' (first | with_reducible exact d11 | refine Below.setCell ?_ (by first | omega | (simp; done) | (simp; omega)) _ | refine Below.alloc ?_ (by first | omega | (simp; done) | (simp; omega)) _))))).mono ?_
  rintro e w12 ⟨rfl, hb⟩
  have b12 : Below w11.heap.size w11 w12 := bthen (by (repeat' (first | exact Below.refl _ _ | refine Below.setCell ?_ (by first | omega | (simp; done) | (simp; omega)) _ | refine Below.alloc ?_ (by first | omega | (simp; done) | (simp; omega)) _))) hb
  have d12 : Below w.heap.size w w12 := bthen d11 b12
  have k12 : w.heap.size ≤ w12.heap.size := d12.size
  have R_12 : w12.rangeAt (w3.heap.size) 0 ((gF c1 5 ty c0 c1 c2 c3 c4 kv by')).toList := range_below b12 (by omega) R_11
  have zR_12 : w3.heap.size < w12.heap.size := Nat.lt_of_lt_of_le zR_11 b12.size
  have f0_12 : w12.cell? ⟨w2.heap.size, 0, none⟩ = some (.int .u8 P) := (b12.cell (p := ⟨w2.heap.size, 0, none⟩) (by show w2.heap.size < w11.heap.size; omega)).trans f0_11
  have f1_12 : w12.cell? ⟨w2.heap.size, 1, none⟩ = some (.int .u32 S) := (b12.cell (p := ⟨w2.heap.size, 1, none⟩) (by show w2.heap.size < w11.heap.size; omega)).trans f1_11
  have f2_12 : w12.cell? ⟨w2.heap.size, 2, none⟩ = some (.int .u32 E) := (b12.cell (p := ⟨w2.heap.size, 2, none⟩) (by show w2.heap.size < w11.heap.size; omega)).trans f2_11
  have f3_12 : w12.cell? ⟨w2.heap.size, 3, none⟩ = some (.int .u16 sp) := (b12.cell (p := ⟨w2.heap.size, 3, none⟩) (by show w2.heap.size < w11.heap.size; omega)).trans f3_11
  have f4_12 : w12.cell? ⟨w2.heap.size, 4, none⟩ = some (.int .u16 dp) := (b12.cell (p := ⟨w2.heap.size, 4, none⟩) (by show w2.heap.size < w11.heap.size; omega)).trans f4_11
  have f5_12 : w12.cell? ⟨w2.heap.size, 5, none⟩ = some (.int .u8 q0) := (b12.cell (p := ⟨w2.heap.size, 5, none⟩) (by show w2.heap.size < w11.heap.size; omega)).trans f5_11
  have zf_12 : w2.heap.size < w12.heap.size := Nat.lt_of_lt_of_le zf_11 b12.size
  clear hb b12 d11 k11 R_11 zR_11 f0_11 f1_11 f2_11 f3_11 f4_11 f5_11 zf_11
  have g0 : w12.cell? ⟨w3.heap.size, 13, none⟩ = some (.int .u8 c0) := rcell' R_12 rfl
  have g1 : w12.cell? ⟨w3.heap.size, 14, none⟩ = some (.int .u32 c1) := rcell' R_12 rfl
  have g2 : w12.cell? ⟨w3.heap.size, 15, none⟩ = some (.int .u32 c2) := rcell' R_12 rfl
  have g3 : w12.cell? ⟨w3.heap.size, 16, none⟩ = some (.int .u16 c3) := rcell' R_12 rfl
  have g4 : w12.cell? ⟨w3.heap.size, 17, none⟩ = some (.int .u16 c4) := rcell' R_12 rfl
  have HN := fun W => key_neq c0 c1 c2 c3 c4 W
  have h1 := HQ1.out
  have h2 := HQ1'.out
  have h3 := HW.out
  have h4 := HW'.out
  go_wp2_with (first | (refine wpList_store_wide 29 (.tmp 19) (.tmp 68) rfl rfl (w12.heap.size + 1) 0 (gF c1 5 ty c0 c1 c2 c3 c4 kv by') rfl rfl w.heap.size w (hi_gF c1 5 ty c0 c1 c2 c3 c4 kv by') (ho_gF c1 5 ty c0 c1 c2 c3 c4 kv by') ?_ (by omega) ?_ ?_; (· (repeat' (first | with_reducible exact d12 | refine Below.setCell ?_ (by first | omega | (simp; done) | (simp; omega)) _ | refine Below.alloc ?_ (by first | omega | (simp; done) | (simp; omega)) _))); (· (repeat (first | (refine there_new _ _ _ _ _ ?_ rfl; first | rfl | (simp; done)) | refine World.there_alloc ?_ _))); intro V2 e2 hz2 R2 kV2 tV2 hcV2; have y0 : V2.cell? ⟨w2.heap.size, 0, none⟩ = some (.int .u8 P) := (hcV2 w2.heap.size 0 (by omega)).trans (by simp [go_sem, f0_12, zf_12]); have y1 : V2.cell? ⟨w2.heap.size, 1, none⟩ = some (.int .u32 S) := (hcV2 w2.heap.size 1 (by omega)).trans (by simp [go_sem, f1_12, zf_12]); have y2 : V2.cell? ⟨w2.heap.size, 2, none⟩ = some (.int .u32 E) := (hcV2 w2.heap.size 2 (by omega)).trans (by simp [go_sem, f2_12, zf_12]); have y3 : V2.cell? ⟨w2.heap.size, 3, none⟩ = some (.int .u16 sp) := (hcV2 w2.heap.size 3 (by omega)).trans (by simp [go_sem, f3_12, zf_12]); have y4 : V2.cell? ⟨w2.heap.size, 4, none⟩ = some (.int .u16 dp) := (hcV2 w2.heap.size 4 (by omega)).trans (by simp [go_sem, f4_12, zf_12]); have y5 : V2.cell? ⟨w2.heap.size, 5, none⟩ = some (.int .u8 q0) := (hcV2 w2.heap.size 5 (by omega)).trans (by simp [go_sem, f5_12, zf_12]); have zy : w2.heap.size < V2.heap.size := (by rw [hz2]; simp; omega); have zb : w12.heap.size + 1 < V2.heap.size := (by rw [hz2]; simp); clear hcV2 kV2 tV2 hz2) | (refine wpList_load_wide 29 _ rfl (by rfl) _ _ rfl (gF c1 5 ty c0 c1 c2 c3 c4 kv by') _ Tryd.underlying29 rfl (hi_gF c1 5 ty c0 c1 c2 c3 c4 kv by') ?_ ?_; · (repeat (first | with_reducible exact R_12 | refine World.rangeAt_alloc ?_ _))) | (refine wpList_load_wide 29 _ rfl (by rfl) _ _ rfl (gF c1 5 ty c0 c1 c2 c3 c4 kv by') _ Tryd.underlying29 rfl (hi_gF c1 5 ty c0 c1 c2 c3 c4 kv by') ?_ ?_; · (repeat (first | with_reducible exact R2 | refine World.rangeAt_alloc ?_ _))))
  refine (H8.out _ (HT.out.below (by (repeat' (first | with_reducible exact e2 | refine Below.setCell ?_ (by first | omega | (simp; done) | (simp; omega)) _ | refine Below.alloc ?_ (by first | omega | (simp; done) | (simp; omega)) _))))).mono ?_
  rintro e w13 ⟨rfl, hb⟩
  have b13 := bthen e2 hb
  clear hb
  go_wp2_with fail
  go_ret
  exact ⟨rfl, b13⟩

set_option maxRecDepth 100000 in
set_option maxHeartbeats 16000000 in
theorem belongs_1 (p s d sp dp side dir by' way : Int) (P S E q0 c0 c1 c2 c3 c4 ty kv fr q1 : Int) (w : World) (HT : Hid (Tabs w))
    (HR : Hid (∀ W, Calls Tryd.prog 13 #[.agg #[.int .u8 p, .int .u32 s, .int .u32 d, .int .u16 sp, .int .u16 dp], .int .u8 side] W fun e w' => e = .returned (.agg #[.int .u8 P, .int .u32 S, .int .u32 E, .int .u16 sp, .int .u16 dp, .int .u8 q0]) ∧ Below W.heap.size W w'))
    (HG : Hid (∀ W, Tabs W → Calls Tryd.prog 14 #[.agg #[.int .u8 P, .int .u32 S, .int .u32 E, .int .u16 sp, .int .u16 dp, .int .u8 q0], .int .u8 dir, .int .u32 by'] W fun e w' => e = .returned (.tuple #[.agg (gF c1 5 ty c0 c1 c2 c3 c4 kv by'), .int .u8 fr, .bool true]) ∧ Below W.heap.size W w'))
    (hP : Hid (0 ≤ P ∧ P ≤ 255)) (hq0 : Hid (0 ≤ q0)) (hfr : 0 ≤ fr) (hfr1 : fr ≤ 1) (hk2 : 0 ≤ c2) (hk2' : c2 ≤ 4294967295) (hk3 : 0 ≤ c3) (hk3' : c3 ≤ 65535) (hk4 : 0 ≤ c4) (hk4' : c4 ≤ 65535) (hdir : 0 ≤ dir) (hdir' : dir ≤ 255) (hway : 0 ≤ way) (hway' : way ≤ 255)
    (HF : Hid (Fa (gF c1 5 ty c0 c1 c2 c3 c4 kv by') c1 5 ty c0 c1 c2 c3 c4 kv)) (HGF : Hid (Fa (gF c2 5 ty c0 c1 c2 c3 c4 kv by') c2 5 ty c0 c1 c2 c3 c4 kv)) (Hyes : Hid (quo P S E sp dp q0 c1 5 ty c0 c1 c2 c3 c4 kv fr = (q1, true))) (Hcan : Hid (can c1 5 ty c0 c1 kv = true)) (Hno : Hid (quo P S E sp dp q0 c2 5 ty c0 c1 c2 c3 c4 kv fr = (0, false)))
    (HQ1 : Hid (dir % 2 = q1)) (HQ1' : Hid (dir.tmod 2 = q1)) (HW : Hid (way % 9 = 1)) (HW' : Hid (way.tmod 9 = 1)) :
    Calls Tryd.prog 4 #[.agg #[.int .u8 p, .int .u32 s, .int .u32 d, .int .u16 sp, .int .u16 dp], .int .u8 side, .int .u8 dir, .int .u32 by', .int .u8 way] w fun e w' => e = .returned (.bool true) ∧ Below w.heap.size w w' := by
  have H5 := Lib.hid (fun W (hW : Tabs W) => quotes_is (gF c1 5 ty c0 c1 c2 c3 c4 kv by') P S E sp dp q0 c1 5 ty c0 c1 c2 c3 c4 kv fr q1 true W HF.out hW hP.out hq0.out hfr Hyes.out)
  have HLk := Lib.hid (fun W (hW : Tabs W) => lookup_below (gF c1 5 ty c0 c1 c2 c3 c4 kv by') c1 5 ty c0 c1 c2 c3 c4 kv W HF.out hW)
  rw [Hcan.out] at HLk
  simp only [pk, if_true] at HLk
  have H8 := Lib.hid (fun W (hW : Tabs W) => quotes_is (gF c2 5 ty c0 c1 c2 c3 c4 kv by') P S E sp dp q0 c2 5 ty c0 c1 c2 c3 c4 kv fr 0 false W HGF.out hW hP.out hq0.out (by omega) Hno.out)
  clear HF HGF Hyes Hcan Hno hP hq0
  go_enter Tryd.func4, Tryd.ntmps4
  go_wp2_with fail
  refine (awake_any _ (HT.out.below (by (repeat' (first | exact Below.refl _ _ | refine Below.setCell ?_ (by first | omega | (simp; done) | (simp; omega)) _ | refine Below.alloc ?_ (by first | omega | (simp; done) | (simp; omega)) _))))).mono ?_
  rintro e w1 ⟨rfl, hb⟩
  have b1 : Below w.heap.size w w1 := bthen (by (repeat' (first | exact Below.refl _ _ | refine Below.setCell ?_ (by first | omega | (simp; done) | (simp; omega)) _ | refine Below.alloc ?_ (by first | omega | (simp; done) | (simp; omega)) _))) hb
  have d1 : Below w.heap.size w w1 := b1
  have k1 : w.heap.size ≤ w1.heap.size := d1.size
  have x0_1 : w1.cell? ⟨w.heap.size, 0, none⟩ = some (.int .u8 p) := (hb.cell (p := ⟨w.heap.size, 0, none⟩) (by first | (simp; done) | (simp; omega))).trans (by simp [go_sem])
  have x1_1 : w1.cell? ⟨w.heap.size, 1, none⟩ = some (.int .u32 s) := (hb.cell (p := ⟨w.heap.size, 1, none⟩) (by first | (simp; done) | (simp; omega))).trans (by simp [go_sem])
  have x2_1 : w1.cell? ⟨w.heap.size, 2, none⟩ = some (.int .u32 d) := (hb.cell (p := ⟨w.heap.size, 2, none⟩) (by first | (simp; done) | (simp; omega))).trans (by simp [go_sem])
  have x3_1 : w1.cell? ⟨w.heap.size, 3, none⟩ = some (.int .u16 sp) := (hb.cell (p := ⟨w.heap.size, 3, none⟩) (by first | (simp; done) | (simp; omega))).trans (by simp [go_sem])
  have x4_1 : w1.cell? ⟨w.heap.size, 4, none⟩ = some (.int .u16 dp) := (hb.cell (p := ⟨w.heap.size, 4, none⟩) (by first | (simp; done) | (simp; omega))).trans (by simp [go_sem])
  have zx_1 : w.heap.size < w1.heap.size := by have := hb.size; simp at this; omega
  clear hb
  go_wp2_with fail
  refine (HR.out _).mono ?_
  rintro e w2 ⟨rfl, hb⟩
  have b2 : Below w1.heap.size w1 w2 := bthen (by (repeat' (first | exact Below.refl _ _ | refine Below.setCell ?_ (by first | omega | (simp; done) | (simp; omega)) _ | refine Below.alloc ?_ (by first | omega | (simp; done) | (simp; omega)) _))) hb
  have d2 : Below w.heap.size w w2 := bthen d1 b2
  have k2 : w.heap.size ≤ w2.heap.size := d2.size
  have x0_2 : w2.cell? ⟨w.heap.size, 0, none⟩ = some (.int .u8 p) := (b2.cell (p := ⟨w.heap.size, 0, none⟩) (by show w.heap.size < w1.heap.size; omega)).trans x0_1
  have x1_2 : w2.cell? ⟨w.heap.size, 1, none⟩ = some (.int .u32 s) := (b2.cell (p := ⟨w.heap.size, 1, none⟩) (by show w.heap.size < w1.heap.size; omega)).trans x1_1
  have x2_2 : w2.cell? ⟨w.heap.size, 2, none⟩ = some (.int .u32 d) := (b2.cell (p := ⟨w.heap.size, 2, none⟩) (by show w.heap.size < w1.heap.size; omega)).trans x2_1
  have x3_2 : w2.cell? ⟨w.heap.size, 3, none⟩ = some (.int .u16 sp) := (b2.cell (p := ⟨w.heap.size, 3, none⟩) (by show w.heap.size < w1.heap.size; omega)).trans x3_1
  have x4_2 : w2.cell? ⟨w.heap.size, 4, none⟩ = some (.int .u16 dp) := (b2.cell (p := ⟨w.heap.size, 4, none⟩) (by show w.heap.size < w1.heap.size; omega)).trans x4_1
  have zx_2 : w.heap.size < w2.heap.size := Nat.lt_of_lt_of_le zx_1 b2.size
  clear hb b2 d1 k1 x0_1 x1_1 x2_1 x3_1 x4_1 zx_1
  clear x0_2 x1_2 x2_2 x3_2 x4_2 zx_2
  go_wp2_with fail
  refine (HG.out _ (HT.out.below (by (repeat' (first | with_reducible exact d2 | refine Below.setCell ?_ (by first | omega | (simp; done) | (simp; omega)) _ | refine Below.alloc ?_ (by first | omega | (simp; done) | (simp; omega)) _))))).mono ?_
  rintro e w3 ⟨rfl, hb⟩
  have b3 : Below w2.heap.size w2 w3 := bthen (by (repeat' (first | exact Below.refl _ _ | refine Below.setCell ?_ (by first | omega | (simp; done) | (simp; omega)) _ | refine Below.alloc ?_ (by first | omega | (simp; done) | (simp; omega)) _))) hb
  have d3 : Below w.heap.size w w3 := bthen d2 b3
  have k3 : w.heap.size ≤ w3.heap.size := d3.size
  have f0_3 : w3.cell? ⟨w2.heap.size, 0, none⟩ = some (.int .u8 P) := (hb.cell (p := ⟨w2.heap.size, 0, none⟩) (by first | (simp; done) | (simp; omega))).trans (by simp [go_sem])
  have f1_3 : w3.cell? ⟨w2.heap.size, 1, none⟩ = some (.int .u32 S) := (hb.cell (p := ⟨w2.heap.size, 1, none⟩) (by first | (simp; done) | (simp; omega))).trans (by simp [go_sem])
  have f2_3 : w3.cell? ⟨w2.heap.size, 2, none⟩ = some (.int .u32 E) := (hb.cell (p := ⟨w2.heap.size, 2, none⟩) (by first | (simp; done) | (simp; omega))).trans (by simp [go_sem])
  have f3_3 : w3.cell? ⟨w2.heap.size, 3, none⟩ = some (.int .u16 sp) := (hb.cell (p := ⟨w2.heap.size, 3, none⟩) (by first | (simp; done) | (simp; omega))).trans (by simp [go_sem])
  have f4_3 : w3.cell? ⟨w2.heap.size, 4, none⟩ = some (.int .u16 dp) := (hb.cell (p := ⟨w2.heap.size, 4, none⟩) (by first | (simp; done) | (simp; omega))).trans (by simp [go_sem])
  have f5_3 : w3.cell? ⟨w2.heap.size, 5, none⟩ = some (.int .u8 q0) := (hb.cell (p := ⟨w2.heap.size, 5, none⟩) (by first | (simp; done) | (simp; omega))).trans (by simp [go_sem])
  have zf_3 : w2.heap.size < w3.heap.size := by have := hb.size; simp at this; omega
  clear hb b3 d2 k2
  go_wp2_with (first | (refine wpList_store_wide 29 (.tmp 12) (.tmp 31) rfl rfl w3.heap.size 0 (gF c1 5 ty c0 c1 c2 c3 c4 kv by') rfl rfl w.heap.size w (hi_gF c1 5 ty c0 c1 c2 c3 c4 kv by') (ho_gF c1 5 ty c0 c1 c2 c3 c4 kv by') ?_ (by omega) ?_ ?_; (· (repeat' (first | with_reducible exact d3 | refine Below.setCell ?_ (by first | omega | (simp; done) | (simp; omega)) _ | refine Below.alloc ?_ (by first | omega | (simp; done) | (simp; omega)) _))); (· (repeat (first | (refine there_new _ _ _ _ _ ?_ rfl; first | rfl | (simp; done)) | refine World.there_alloc ?_ _))); intro V d10 hzV R_10 kV tV hcV; have f0_10 : V.cell? ⟨w2.heap.size, 0, none⟩ = some (.int .u8 P) := (hcV w2.heap.size 0 (by omega)).trans (by simp [go_sem, f0_3, zf_3]); have f1_10 : V.cell? ⟨w2.heap.size, 1, none⟩ = some (.int .u32 S) := (hcV w2.heap.size 1 (by omega)).trans (by simp [go_sem, f1_3, zf_3]); have f2_10 : V.cell? ⟨w2.heap.size, 2, none⟩ = some (.int .u32 E) := (hcV w2.heap.size 2 (by omega)).trans (by simp [go_sem, f2_3, zf_3]); have f3_10 : V.cell? ⟨w2.heap.size, 3, none⟩ = some (.int .u16 sp) := (hcV w2.heap.size 3 (by omega)).trans (by simp [go_sem, f3_3, zf_3]); have f4_10 : V.cell? ⟨w2.heap.size, 4, none⟩ = some (.int .u16 dp) := (hcV w2.heap.size 4 (by omega)).trans (by simp [go_sem, f4_3, zf_3]); have f5_10 : V.cell? ⟨w2.heap.size, 5, none⟩ = some (.int .u8 q0) := (hcV w2.heap.size 5 (by omega)).trans (by simp [go_sem, f5_3, zf_3]); have zf_10 : w2.heap.size < V.heap.size := (by rw [hzV]; simp; omega); have zR_10 : w3.heap.size < V.heap.size := (by rw [hzV]; simp); clear hcV hzV kV tV) | (refine wpList_load_wide 29 _ rfl (by rfl) _ _ rfl (gF c1 5 ty c0 c1 c2 c3 c4 kv by') _ Tryd.underlying29 rfl (hi_gF c1 5 ty c0 c1 c2 c3 c4 kv by') ?_ ?_; · (repeat (first | with_reducible exact R_10 | refine World.rangeAt_alloc ?_ _))))
  have k10 : w.heap.size ≤ V.heap.size := d10.size
  have nfR : w2.heap.size < w3.heap.size := zf_3
  clear f0_3 f1_3 f2_3 f3_3 f4_3 f5_3 zf_3 d3
  refine (H5.out _ (HT.out.below (by (repeat' (first | with_reducible exact d10 | refine Below.setCell ?_ (by first | omega | (simp; done) | (simp; omega)) _ | refine Below.alloc ?_ (by first | omega | (simp; done) | (simp; omega)) _))))).mono ?_
  rintro e w11 ⟨rfl, hb⟩
  have b11 : Below V.heap.size V w11 := bthen (by (repeat' (first | exact Below.refl _ _ | refine Below.setCell ?_ (by first | omega | (simp; done) | (simp; omega)) _ | refine Below.alloc ?_ (by first | omega | (simp; done) | (simp; omega)) _))) hb
  have d11 : Below w.heap.size w w11 := bthen d10 b11
  have k11 : w.heap.size ≤ w11.heap.size := d11.size
  have R_11 : w11.rangeAt (w3.heap.size) 0 ((gF c1 5 ty c0 c1 c2 c3 c4 kv by')).toList := range_below b11 (by omega) R_10
  have zR_11 : w3.heap.size < w11.heap.size := Nat.lt_of_lt_of_le zR_10 b11.size
  have f0_11 : w11.cell? ⟨w2.heap.size, 0, none⟩ = some (.int .u8 P) := (b11.cell (p := ⟨w2.heap.size, 0, none⟩) (by show w2.heap.size < V.heap.size; omega)).trans f0_10
  have f1_11 : w11.cell? ⟨w2.heap.size, 1, none⟩ = some (.int .u32 S) := (b11.cell (p := ⟨w2.heap.size, 1, none⟩) (by show w2.heap.size < V.heap.size; omega)).trans f1_10
  have f2_11 : w11.cell? ⟨w2.heap.size, 2, none⟩ = some (.int .u32 E) := (b11.cell (p := ⟨w2.heap.size, 2, none⟩) (by show w2.heap.size < V.heap.size; omega)).trans f2_10
  have f3_11 : w11.cell? ⟨w2.heap.size, 3, none⟩ = some (.int .u16 sp) := (b11.cell (p := ⟨w2.heap.size, 3, none⟩) (by show w2.heap.size < V.heap.size; omega)).trans f3_10
  have f4_11 : w11.cell? ⟨w2.heap.size, 4, none⟩ = some (.int .u16 dp) := (b11.cell (p := ⟨w2.heap.size, 4, none⟩) (by show w2.heap.size < V.heap.size; omega)).trans f4_10
  have f5_11 : w11.cell? ⟨w2.heap.size, 5, none⟩ = some (.int .u8 q0) := (b11.cell (p := ⟨w2.heap.size, 5, none⟩) (by show w2.heap.size < V.heap.size; omega)).trans f5_10
  have zf_11 : w2.heap.size < w11.heap.size := Nat.lt_of_lt_of_le zf_10 b11.size
  clear hb b11 d10 k10 R_10 zR_10 f0_10 f1_10 f2_10 f3_10 f4_10 f5_10 zf_10
  go_wp2_with (refine wpList_load_wide 29 _ rfl (by rfl) _ _ rfl (gF c1 5 ty c0 c1 c2 c3 c4 kv by') _ Tryd.underlying29 rfl (hi_gF c1 5 ty c0 c1 c2 c3 c4 kv by') ?_ ?_; · (repeat (first | with_reducible exact R_11 | refine World.rangeAt_alloc ?_ _)))
  refine (HLk.out _ (HT.out.below (by (repeat' (first | with_reducible exact d11 | refine Below.setCell ?_ (by first | omega | (simp; done) | (simp; omega)) _ | refine Below.alloc ?_ (by first | omega | (simp; done) | (simp; omega)) _))))).mono ?_
  rintro e w12 ⟨rfl, hb⟩
  have b12 : Below w11.heap.size w11 w12 := bthen (by (repeat' (first | exact Below.refl _ _ | refine Below.setCell ?_ (by first | omega | (simp; done) | (simp; omega)) _ | refine Below.alloc ?_ (by first | omega | (simp; done) | (simp; omega)) _))) hb
  have d12 : Below w.heap.size w w12 := bthen d11 b12
  have k12 : w.heap.size ≤ w12.heap.size := d12.size
  have R_12 : w12.rangeAt (w3.heap.size) 0 ((gF c1 5 ty c0 c1 c2 c3 c4 kv by')).toList := range_below b12 (by omega) R_11
  have zR_12 : w3.heap.size < w12.heap.size := Nat.lt_of_lt_of_le zR_11 b12.size
  have f0_12 : w12.cell? ⟨w2.heap.size, 0, none⟩ = some (.int .u8 P) := (b12.cell (p := ⟨w2.heap.size, 0, none⟩) (by show w2.heap.size < w11.heap.size; omega)).trans f0_11
  have f1_12 : w12.cell? ⟨w2.heap.size, 1, none⟩ = some (.int .u32 S) := (b12.cell (p := ⟨w2.heap.size, 1, none⟩) (by show w2.heap.size < w11.heap.size; omega)).trans f1_11
  have f2_12 : w12.cell? ⟨w2.heap.size, 2, none⟩ = some (.int .u32 E) := (b12.cell (p := ⟨w2.heap.size, 2, none⟩) (by show w2.heap.size < w11.heap.size; omega)).trans f2_11
  have f3_12 : w12.cell? ⟨w2.heap.size, 3, none⟩ = some (.int .u16 sp) := (b12.cell (p := ⟨w2.heap.size, 3, none⟩) (by show w2.heap.size < w11.heap.size; omega)).trans f3_11
  have f4_12 : w12.cell? ⟨w2.heap.size, 4, none⟩ = some (.int .u16 dp) := (b12.cell (p := ⟨w2.heap.size, 4, none⟩) (by show w2.heap.size < w11.heap.size; omega)).trans f4_11
  have f5_12 : w12.cell? ⟨w2.heap.size, 5, none⟩ = some (.int .u8 q0) := (b12.cell (p := ⟨w2.heap.size, 5, none⟩) (by show w2.heap.size < w11.heap.size; omega)).trans f5_11
  have zf_12 : w2.heap.size < w12.heap.size := Nat.lt_of_lt_of_le zf_11 b12.size
  clear hb b12 d11 k11 R_11 zR_11 f0_11 f1_11 f2_11 f3_11 f4_11 f5_11 zf_11
  have g0 : w12.cell? ⟨w3.heap.size, 13, none⟩ = some (.int .u8 c0) := rcell' R_12 rfl
  have g1 : w12.cell? ⟨w3.heap.size, 14, none⟩ = some (.int .u32 c1) := rcell' R_12 rfl
  have g2 : w12.cell? ⟨w3.heap.size, 15, none⟩ = some (.int .u32 c2) := rcell' R_12 rfl
  have g3 : w12.cell? ⟨w3.heap.size, 16, none⟩ = some (.int .u16 c3) := rcell' R_12 rfl
  have g4 : w12.cell? ⟨w3.heap.size, 17, none⟩ = some (.int .u16 c4) := rcell' R_12 rfl
  have HN := fun W => key_neq c0 c1 c2 c3 c4 W
  have h1 := HQ1.out
  have h2 := HQ1'.out
  have h3 := HW.out
  have h4 := HW'.out
  go_wp2_with (first | (refine wpList_store_wide 29 (.tmp 19) (.tmp 68) rfl rfl (w12.heap.size + 1) 0 (gF c1 5 ty c0 c1 c2 c3 c4 kv by') rfl rfl w.heap.size w (hi_gF c1 5 ty c0 c1 c2 c3 c4 kv by') (ho_gF c1 5 ty c0 c1 c2 c3 c4 kv by') ?_ (by omega) ?_ ?_; (· (repeat' (first | with_reducible exact d12 | refine Below.setCell ?_ (by first | omega | (simp; done) | (simp; omega)) _ | refine Below.alloc ?_ (by first | omega | (simp; done) | (simp; omega)) _))); (· (repeat (first | (refine there_new _ _ _ _ _ ?_ rfl; first | rfl | (simp; done)) | refine World.there_alloc ?_ _))); intro V2 e2 hz2 R2 kV2 tV2 hcV2; have y0 : V2.cell? ⟨w2.heap.size, 0, none⟩ = some (.int .u8 P) := (hcV2 w2.heap.size 0 (by omega)).trans (by simp [go_sem, f0_12, zf_12]); have y1 : V2.cell? ⟨w2.heap.size, 1, none⟩ = some (.int .u32 S) := (hcV2 w2.heap.size 1 (by omega)).trans (by simp [go_sem, f1_12, zf_12]); have y2 : V2.cell? ⟨w2.heap.size, 2, none⟩ = some (.int .u32 E) := (hcV2 w2.heap.size 2 (by omega)).trans (by simp [go_sem, f2_12, zf_12]); have y3 : V2.cell? ⟨w2.heap.size, 3, none⟩ = some (.int .u16 sp) := (hcV2 w2.heap.size 3 (by omega)).trans (by simp [go_sem, f3_12, zf_12]); have y4 : V2.cell? ⟨w2.heap.size, 4, none⟩ = some (.int .u16 dp) := (hcV2 w2.heap.size 4 (by omega)).trans (by simp [go_sem, f4_12, zf_12]); have y5 : V2.cell? ⟨w2.heap.size, 5, none⟩ = some (.int .u8 q0) := (hcV2 w2.heap.size 5 (by omega)).trans (by simp [go_sem, f5_12, zf_12]); have zy : w2.heap.size < V2.heap.size := (by rw [hz2]; simp; omega); have zb : w12.heap.size + 1 < V2.heap.size := (by rw [hz2]; simp); have cj := rcell' (j := 2) R2 rfl; have fj := tfree (tV2 (w12.heap.size + 1) 0 19 (by (repeat (first | (refine there_new _ _ _ _ _ ?_ rfl; first | rfl | (simp; done)) | refine World.there_alloc ?_ _)))) 2 (by decide); have R3 : (V2.setCell ⟨(w12.heap.size + 1), 2, none⟩ (.int .u32 c2)).rangeAt (w12.heap.size + 1) 0 (gF c2 5 ty c0 c1 c2 c3 c4 kv by').toList := range_put R2 2 (.int .u32 c2) fj; have e3 := e2.setCell (p := ⟨(w12.heap.size + 1), 2, none⟩) (by show w.heap.size ≤ w12.heap.size + 1; omega) (.int .u32 c2); have ny : w2.heap.size ≠ w12.heap.size + 1 := (by omega); have ny' : w12.heap.size + 1 ≠ w2.heap.size := (by omega); have q15 : V2.cell? ⟨w3.heap.size, 15, none⟩ = some (.int .u32 c2) := (hcV2 w3.heap.size 15 (by omega)).trans (by simp [go_sem, g2, zR_12]); have z15 : w3.heap.size < V2.heap.size := (by rw [hz2]; simp; omega); clear hcV2 kV2 tV2 hz2) | (refine wpList_load_wide 29 _ rfl (by rfl) _ _ rfl (gF c1 5 ty c0 c1 c2 c3 c4 kv by') _ Tryd.underlying29 rfl (hi_gF c1 5 ty c0 c1 c2 c3 c4 kv by') ?_ ?_; · (repeat (first | with_reducible exact R_12 | refine World.rangeAt_alloc ?_ _))) | (refine wpList_load_wide 29 _ rfl (by rfl) _ _ rfl (gF c2 5 ty c0 c1 c2 c3 c4 kv by') _ Tryd.underlying29 rfl (hi_gF c2 5 ty c0 c1 c2 c3 c4 kv by') ?_ ?_; · (repeat (first | with_reducible exact R3 | refine World.rangeAt_alloc ?_ _))))
  refine (H8.out _ (HT.out.below (by (repeat' (first | with_reducible exact e3 | refine Below.setCell ?_ (by first | omega | (simp; done) | (simp; omega)) _ | refine Below.alloc ?_ (by first | omega | (simp; done) | (simp; omega)) _))))).mono ?_
  rintro e w13 ⟨rfl, hb⟩
  have b13 := bthen e3 hb
  clear hb
  go_wp2_with fail
  go_ret
  exact ⟨rfl, b13⟩

set_option maxRecDepth 100000 in
set_option maxHeartbeats 16000000 in
theorem belongs_2 (p s d sp dp side dir by' way : Int) (P S E q0 c0 c1 c2 c3 c4 ty kv fr q1 : Int) (w : World) (HT : Hid (Tabs w))
    (HR : Hid (∀ W, Calls Tryd.prog 13 #[.agg #[.int .u8 p, .int .u32 s, .int .u32 d, .int .u16 sp, .int .u16 dp], .int .u8 side] W fun e w' => e = .returned (.agg #[.int .u8 P, .int .u32 S, .int .u32 E, .int .u16 sp, .int .u16 dp, .int .u8 q0]) ∧ Below W.heap.size W w'))
    (HG : Hid (∀ W, Tabs W → Calls Tryd.prog 14 #[.agg #[.int .u8 P, .int .u32 S, .int .u32 E, .int .u16 sp, .int .u16 dp, .int .u8 q0], .int .u8 dir, .int .u32 by'] W fun e w' => e = .returned (.tuple #[.agg (gF c1 5 ty c0 c1 c2 c3 c4 kv by'), .int .u8 fr, .bool true]) ∧ Below W.heap.size W w'))
    (hP : Hid (0 ≤ P ∧ P ≤ 255)) (hq0 : Hid (0 ≤ q0)) (hfr : 0 ≤ fr) (hfr1 : fr ≤ 1) (hk2 : 0 ≤ c2) (hk2' : c2 ≤ 4294967295) (hk3 : 0 ≤ c3) (hk3' : c3 ≤ 65535) (hk4 : 0 ≤ c4) (hk4' : c4 ≤ 65535) (hdir : 0 ≤ dir) (hdir' : dir ≤ 255) (hway : 0 ≤ way) (hway' : way ≤ 255)
    (HF : Hid (Fa (gF c1 5 ty c0 c1 c2 c3 c4 kv by') c1 5 ty c0 c1 c2 c3 c4 kv)) (HGF : Hid (Fa (gF c1 4 ty c0 c1 c2 c3 c4 kv by') c1 4 ty c0 c1 c2 c3 c4 kv)) (Hyes : Hid (quo P S E sp dp q0 c1 5 ty c0 c1 c2 c3 c4 kv fr = (q1, true))) (Hcan : Hid (can c1 5 ty c0 c1 kv = true)) (Hno : Hid (quo P S E sp dp q0 c1 4 ty c0 c1 c2 c3 c4 kv fr = (0, false)))
    (HQ1 : Hid (dir % 2 = q1)) (HQ1' : Hid (dir.tmod 2 = q1)) (HW : Hid (way % 9 = 2)) (HW' : Hid (way.tmod 9 = 2)) :
    Calls Tryd.prog 4 #[.agg #[.int .u8 p, .int .u32 s, .int .u32 d, .int .u16 sp, .int .u16 dp], .int .u8 side, .int .u8 dir, .int .u32 by', .int .u8 way] w fun e w' => e = .returned (.bool true) ∧ Below w.heap.size w w' := by
  have H5 := Lib.hid (fun W (hW : Tabs W) => quotes_is (gF c1 5 ty c0 c1 c2 c3 c4 kv by') P S E sp dp q0 c1 5 ty c0 c1 c2 c3 c4 kv fr q1 true W HF.out hW hP.out hq0.out hfr Hyes.out)
  have HLk := Lib.hid (fun W (hW : Tabs W) => lookup_below (gF c1 5 ty c0 c1 c2 c3 c4 kv by') c1 5 ty c0 c1 c2 c3 c4 kv W HF.out hW)
  rw [Hcan.out] at HLk
  simp only [pk, if_true] at HLk
  have H8 := Lib.hid (fun W (hW : Tabs W) => quotes_is (gF c1 4 ty c0 c1 c2 c3 c4 kv by') P S E sp dp q0 c1 4 ty c0 c1 c2 c3 c4 kv fr 0 false W HGF.out hW hP.out hq0.out (by omega) Hno.out)
  clear HF HGF Hyes Hcan Hno hP hq0
  go_enter Tryd.func4, Tryd.ntmps4
  go_wp2_with fail
  refine (awake_any _ (HT.out.below (by (repeat' (first | exact Below.refl _ _ | refine Below.setCell ?_ (by first | omega | (simp; done) | (simp; omega)) _ | refine Below.alloc ?_ (by first | omega | (simp; done) | (simp; omega)) _))))).mono ?_
  rintro e w1 ⟨rfl, hb⟩
  have b1 : Below w.heap.size w w1 := bthen (by (repeat' (first | exact Below.refl _ _ | refine Below.setCell ?_ (by first | omega | (simp; done) | (simp; omega)) _ | refine Below.alloc ?_ (by first | omega | (simp; done) | (simp; omega)) _))) hb
  have d1 : Below w.heap.size w w1 := b1
  have k1 : w.heap.size ≤ w1.heap.size := d1.size
  have x0_1 : w1.cell? ⟨w.heap.size, 0, none⟩ = some (.int .u8 p) := (hb.cell (p := ⟨w.heap.size, 0, none⟩) (by first | (simp; done) | (simp; omega))).trans (by simp [go_sem])
  have x1_1 : w1.cell? ⟨w.heap.size, 1, none⟩ = some (.int .u32 s) := (hb.cell (p := ⟨w.heap.size, 1, none⟩) (by first | (simp; done) | (simp; omega))).trans (by simp [go_sem])
  have x2_1 : w1.cell? ⟨w.heap.size, 2, none⟩ = some (.int .u32 d) := (hb.cell (p := ⟨w.heap.size, 2, none⟩) (by first | (simp; done) | (simp; omega))).trans (by simp [go_sem])
  have x3_1 : w1.cell? ⟨w.heap.size, 3, none⟩ = some (.int .u16 sp) := (hb.cell (p := ⟨w.heap.size, 3, none⟩) (by first | (simp; done) | (simp; omega))).trans (by simp [go_sem])
  have x4_1 : w1.cell? ⟨w.heap.size, 4, none⟩ = some (.int .u16 dp) := (hb.cell (p := ⟨w.heap.size, 4, none⟩) (by first | (simp; done) | (simp; omega))).trans (by simp [go_sem])
  have zx_1 : w.heap.size < w1.heap.size := by have := hb.size; simp at this; omega
  clear hb
  go_wp2_with fail
  refine (HR.out _).mono ?_
  rintro e w2 ⟨rfl, hb⟩
  have b2 : Below w1.heap.size w1 w2 := bthen (by (repeat' (first | exact Below.refl _ _ | refine Below.setCell ?_ (by first | omega | (simp; done) | (simp; omega)) _ | refine Below.alloc ?_ (by first | omega | (simp; done) | (simp; omega)) _))) hb
  have d2 : Below w.heap.size w w2 := bthen d1 b2
  have k2 : w.heap.size ≤ w2.heap.size := d2.size
  have x0_2 : w2.cell? ⟨w.heap.size, 0, none⟩ = some (.int .u8 p) := (b2.cell (p := ⟨w.heap.size, 0, none⟩) (by show w.heap.size < w1.heap.size; omega)).trans x0_1
  have x1_2 : w2.cell? ⟨w.heap.size, 1, none⟩ = some (.int .u32 s) := (b2.cell (p := ⟨w.heap.size, 1, none⟩) (by show w.heap.size < w1.heap.size; omega)).trans x1_1
  have x2_2 : w2.cell? ⟨w.heap.size, 2, none⟩ = some (.int .u32 d) := (b2.cell (p := ⟨w.heap.size, 2, none⟩) (by show w.heap.size < w1.heap.size; omega)).trans x2_1
  have x3_2 : w2.cell? ⟨w.heap.size, 3, none⟩ = some (.int .u16 sp) := (b2.cell (p := ⟨w.heap.size, 3, none⟩) (by show w.heap.size < w1.heap.size; omega)).trans x3_1
  have x4_2 : w2.cell? ⟨w.heap.size, 4, none⟩ = some (.int .u16 dp) := (b2.cell (p := ⟨w.heap.size, 4, none⟩) (by show w.heap.size < w1.heap.size; omega)).trans x4_1
  have zx_2 : w.heap.size < w2.heap.size := Nat.lt_of_lt_of_le zx_1 b2.size
  clear hb b2 d1 k1 x0_1 x1_1 x2_1 x3_1 x4_1 zx_1
  clear x0_2 x1_2 x2_2 x3_2 x4_2 zx_2
  go_wp2_with fail
  refine (HG.out _ (HT.out.below (by (repeat' (first | with_reducible exact d2 | refine Below.setCell ?_ (by first | omega | (simp; done) | (simp; omega)) _ | refine Below.alloc ?_ (by first | omega | (simp; done) | (simp; omega)) _))))).mono ?_
  rintro e w3 ⟨rfl, hb⟩
  have b3 : Below w2.heap.size w2 w3 := bthen (by (repeat' (first | exact Below.refl _ _ | refine Below.setCell ?_ (by first | omega | (simp; done) | (simp; omega)) _ | refine Below.alloc ?_ (by first | omega | (simp; done) | (simp; omega)) _))) hb
  have d3 : Below w.heap.size w w3 := bthen d2 b3
  have k3 : w.heap.size ≤ w3.heap.size := d3.size
  have f0_3 : w3.cell? ⟨w2.heap.size, 0, none⟩ = some (.int .u8 P) := (hb.cell (p := ⟨w2.heap.size, 0, none⟩) (by first | (simp; done) | (simp; omega))).trans (by simp [go_sem])
  have f1_3 : w3.cell? ⟨w2.heap.size, 1, none⟩ = some (.int .u32 S) := (hb.cell (p := ⟨w2.heap.size, 1, none⟩) (by first | (simp; done) | (simp; omega))).trans (by simp [go_sem])
  have f2_3 : w3.cell? ⟨w2.heap.size, 2, none⟩ = some (.int .u32 E) := (hb.cell (p := ⟨w2.heap.size, 2, none⟩) (by first | (simp; done) | (simp; omega))).trans (by simp [go_sem])
  have f3_3 : w3.cell? ⟨w2.heap.size, 3, none⟩ = some (.int .u16 sp) := (hb.cell (p := ⟨w2.heap.size, 3, none⟩) (by first | (simp; done) | (simp; omega))).trans (by simp [go_sem])
  have f4_3 : w3.cell? ⟨w2.heap.size, 4, none⟩ = some (.int .u16 dp) := (hb.cell (p := ⟨w2.heap.size, 4, none⟩) (by first | (simp; done) | (simp; omega))).trans (by simp [go_sem])
  have f5_3 : w3.cell? ⟨w2.heap.size, 5, none⟩ = some (.int .u8 q0) := (hb.cell (p := ⟨w2.heap.size, 5, none⟩) (by first | (simp; done) | (simp; omega))).trans (by simp [go_sem])
  have zf_3 : w2.heap.size < w3.heap.size := by have := hb.size; simp at this; omega
  clear hb b3 d2 k2
  go_wp2_with (first | (refine wpList_store_wide 29 (.tmp 12) (.tmp 31) rfl rfl w3.heap.size 0 (gF c1 5 ty c0 c1 c2 c3 c4 kv by') rfl rfl w.heap.size w (hi_gF c1 5 ty c0 c1 c2 c3 c4 kv by') (ho_gF c1 5 ty c0 c1 c2 c3 c4 kv by') ?_ (by omega) ?_ ?_; (· (repeat' (first | with_reducible exact d3 | refine Below.setCell ?_ (by first | omega | (simp; done) | (simp; omega)) _ | refine Below.alloc ?_ (by first | omega | (simp; done) | (simp; omega)) _))); (· (repeat (first | (refine there_new _ _ _ _ _ ?_ rfl; first | rfl | (simp; done)) | refine World.there_alloc ?_ _))); intro V d10 hzV R_10 kV tV hcV; have f0_10 : V.cell? ⟨w2.heap.size, 0, none⟩ = some (.int .u8 P) := (hcV w2.heap.size 0 (by omega)).trans (by simp [go_sem, f0_3, zf_3]); have f1_10 : V.cell? ⟨w2.heap.size, 1, none⟩ = some (.int .u32 S) := (hcV w2.heap.size 1 (by omega)).trans (by simp [go_sem, f1_3, zf_3]); have f2_10 : V.cell? ⟨w2.heap.size, 2, none⟩ = some (.int .u32 E) := (hcV w2.heap.size 2 (by omega)).trans (by simp [go_sem, f2_3, zf_3]); have f3_10 : V.cell? ⟨w2.heap.size, 3, none⟩ = some (.int .u16 sp) := (hcV w2.heap.size 3 (by omega)).trans (by simp [go_sem, f3_3, zf_3]); have f4_10 : V.cell? ⟨w2.heap.size, 4, none⟩ = some (.int .u16 dp) := (hcV w2.heap.size 4 (by omega)).trans (by simp [go_sem, f4_3, zf_3]); have f5_10 : V.cell? ⟨w2.heap.size, 5, none⟩ = some (.int .u8 q0) := (hcV w2.heap.size 5 (by omega)).trans (by simp [go_sem, f5_3, zf_3]); have zf_10 : w2.heap.size < V.heap.size := (by rw [hzV]; simp; omega); have zR_10 : w3.heap.size < V.heap.size := (by rw [hzV]; simp); clear hcV hzV kV tV) | (refine wpList_load_wide 29 _ rfl (by rfl) _ _ rfl (gF c1 5 ty c0 c1 c2 c3 c4 kv by') _ Tryd.underlying29 rfl (hi_gF c1 5 ty c0 c1 c2 c3 c4 kv by') ?_ ?_; · (repeat (first | with_reducible exact R_10 | refine World.rangeAt_alloc ?_ _))))
  have k10 : w.heap.size ≤ V.heap.size := d10.size
  have nfR : w2.heap.size < w3.heap.size := zf_3
  clear f0_3 f1_3 f2_3 f3_3 f4_3 f5_3 zf_3 d3
  refine (H5.out _ (HT.out.below (by (repeat' (first | with_reducible exact d10 | refine Below.setCell ?_ (by first | omega | (simp; done) | (simp; omega)) _ | refine Below.alloc ?_ (by first | omega | (simp; done) | (simp; omega)) _))))).mono ?_
  rintro e w11 ⟨rfl, hb⟩
  have b11 : Below V.heap.size V w11 := bthen (by (repeat' (first | exact Below.refl _ _ | refine Below.setCell ?_ (by first | omega | (simp; done) | (simp; omega)) _ | refine Below.alloc ?_ (by first | omega | (simp; done) | (simp; omega)) _))) hb
  have d11 : Below w.heap.size w w11 := bthen d10 b11
  have k11 : w.heap.size ≤ w11.heap.size := d11.size
  have R_11 : w11.rangeAt (w3.heap.size) 0 ((gF c1 5 ty c0 c1 c2 c3 c4 kv by')).toList := range_below b11 (by omega) R_10
  have zR_11 : w3.heap.size < w11.heap.size := Nat.lt_of_lt_of_le zR_10 b11.size
  have f0_11 : w11.cell? ⟨w2.heap.size, 0, none⟩ = some (.int .u8 P) := (b11.cell (p := ⟨w2.heap.size, 0, none⟩) (by show w2.heap.size < V.heap.size; omega)).trans f0_10
  have f1_11 : w11.cell? ⟨w2.heap.size, 1, none⟩ = some (.int .u32 S) := (b11.cell (p := ⟨w2.heap.size, 1, none⟩) (by show w2.heap.size < V.heap.size; omega)).trans f1_10
  have f2_11 : w11.cell? ⟨w2.heap.size, 2, none⟩ = some (.int .u32 E) := (b11.cell (p := ⟨w2.heap.size, 2, none⟩) (by show w2.heap.size < V.heap.size; omega)).trans f2_10
  have f3_11 : w11.cell? ⟨w2.heap.size, 3, none⟩ = some (.int .u16 sp) := (b11.cell (p := ⟨w2.heap.size, 3, none⟩) (by show w2.heap.size < V.heap.size; omega)).trans f3_10
  have f4_11 : w11.cell? ⟨w2.heap.size, 4, none⟩ = some (.int .u16 dp) := (b11.cell (p := ⟨w2.heap.size, 4, none⟩) (by show w2.heap.size < V.heap.size; omega)).trans f4_10
  have f5_11 : w11.cell? ⟨w2.heap.size, 5, none⟩ = some (.int .u8 q0) := (b11.cell (p := ⟨w2.heap.size, 5, none⟩) (by show w2.heap.size < V.heap.size; omega)).trans f5_10
  have zf_11 : w2.heap.size < w11.heap.size := Nat.lt_of_lt_of_le zf_10 b11.size
  clear hb b11 d10 k10 R_10 zR_10 f0_10 f1_10 f2_10 f3_10 f4_10 f5_10 zf_10
  go_wp2_with (refine wpList_load_wide 29 _ rfl (by rfl) _ _ rfl (gF c1 5 ty c0 c1 c2 c3 c4 kv by') _ Tryd.underlying29 rfl (hi_gF c1 5 ty c0 c1 c2 c3 c4 kv by') ?_ ?_; · (repeat (first | with_reducible exact R_11 | refine World.rangeAt_alloc ?_ _)))
  refine (HLk.out _ (HT.out.below (by (repeat' (first | with_reducible exact d11 | refine Below.setCell ?_ (by first | omega | (simp; done) | (simp; omega)) _ | refine Below.alloc ?_ (by first | omega | (simp; done) | (simp; omega)) _))))).mono ?_
  rintro e w12 ⟨rfl, hb⟩
  have b12 : Below w11.heap.size w11 w12 := bthen (by (repeat' (first | exact Below.refl _ _ | refine Below.setCell ?_ (by first | omega | (simp; done) | (simp; omega)) _ | refine Below.alloc ?_ (by first | omega | (simp; done) | (simp; omega)) _))) hb
  have d12 : Below w.heap.size w w12 := bthen d11 b12
  have k12 : w.heap.size ≤ w12.heap.size := d12.size
  have R_12 : w12.rangeAt (w3.heap.size) 0 ((gF c1 5 ty c0 c1 c2 c3 c4 kv by')).toList := range_below b12 (by omega) R_11
  have zR_12 : w3.heap.size < w12.heap.size := Nat.lt_of_lt_of_le zR_11 b12.size
  have f0_12 : w12.cell? ⟨w2.heap.size, 0, none⟩ = some (.int .u8 P) := (b12.cell (p := ⟨w2.heap.size, 0, none⟩) (by show w2.heap.size < w11.heap.size; omega)).trans f0_11
  have f1_12 : w12.cell? ⟨w2.heap.size, 1, none⟩ = some (.int .u32 S) := (b12.cell (p := ⟨w2.heap.size, 1, none⟩) (by show w2.heap.size < w11.heap.size; omega)).trans f1_11
  have f2_12 : w12.cell? ⟨w2.heap.size, 2, none⟩ = some (.int .u32 E) := (b12.cell (p := ⟨w2.heap.size, 2, none⟩) (by show w2.heap.size < w11.heap.size; omega)).trans f2_11
  have f3_12 : w12.cell? ⟨w2.heap.size, 3, none⟩ = some (.int .u16 sp) := (b12.cell (p := ⟨w2.heap.size, 3, none⟩) (by show w2.heap.size < w11.heap.size; omega)).trans f3_11
  have f4_12 : w12.cell? ⟨w2.heap.size, 4, none⟩ = some (.int .u16 dp) := (b12.cell (p := ⟨w2.heap.size, 4, none⟩) (by show w2.heap.size < w11.heap.size; omega)).trans f4_11
  have f5_12 : w12.cell? ⟨w2.heap.size, 5, none⟩ = some (.int .u8 q0) := (b12.cell (p := ⟨w2.heap.size, 5, none⟩) (by show w2.heap.size < w11.heap.size; omega)).trans f5_11
  have zf_12 : w2.heap.size < w12.heap.size := Nat.lt_of_lt_of_le zf_11 b12.size
  clear hb b12 d11 k11 R_11 zR_11 f0_11 f1_11 f2_11 f3_11 f4_11 f5_11 zf_11
  have g0 : w12.cell? ⟨w3.heap.size, 13, none⟩ = some (.int .u8 c0) := rcell' R_12 rfl
  have g1 : w12.cell? ⟨w3.heap.size, 14, none⟩ = some (.int .u32 c1) := rcell' R_12 rfl
  have g2 : w12.cell? ⟨w3.heap.size, 15, none⟩ = some (.int .u32 c2) := rcell' R_12 rfl
  have g3 : w12.cell? ⟨w3.heap.size, 16, none⟩ = some (.int .u16 c3) := rcell' R_12 rfl
  have g4 : w12.cell? ⟨w3.heap.size, 17, none⟩ = some (.int .u16 c4) := rcell' R_12 rfl
  have HN := fun W => key_neq c0 c1 c2 c3 c4 W
  have h1 := HQ1.out
  have h2 := HQ1'.out
  have h3 := HW.out
  have h4 := HW'.out
  go_wp2_with (first | (refine wpList_store_wide 29 (.tmp 19) (.tmp 68) rfl rfl (w12.heap.size + 1) 0 (gF c1 5 ty c0 c1 c2 c3 c4 kv by') rfl rfl w.heap.size w (hi_gF c1 5 ty c0 c1 c2 c3 c4 kv by') (ho_gF c1 5 ty c0 c1 c2 c3 c4 kv by') ?_ (by omega) ?_ ?_; (· (repeat' (first | with_reducible exact d12 | refine Below.setCell ?_ (by first | omega | (simp; done) | (simp; omega)) _ | refine Below.alloc ?_ (by first | omega | (simp; done) | (simp; omega)) _))); (· (repeat (first | (refine there_new _ _ _ _ _ ?_ rfl; first | rfl | (simp; done)) | refine World.there_alloc ?_ _))); intro V2 e2 hz2 R2 kV2 tV2 hcV2; have y0 : V2.cell? ⟨w2.heap.size, 0, none⟩ = some (.int .u8 P) := (hcV2 w2.heap.size 0 (by omega)).trans (by simp [go_sem, f0_12, zf_12]); have y1 : V2.cell? ⟨w2.heap.size, 1, none⟩ = some (.int .u32 S) := (hcV2 w2.heap.size 1 (by omega)).trans (by simp [go_sem, f1_12, zf_12]); have y2 : V2.cell? ⟨w2.heap.size, 2, none⟩ = some (.int .u32 E) := (hcV2 w2.heap.size 2 (by omega)).trans (by simp [go_sem, f2_12, zf_12]); have y3 : V2.cell? ⟨w2.heap.size, 3, none⟩ = some (.int .u16 sp) := (hcV2 w2.heap.size 3 (by omega)).trans (by simp [go_sem, f3_12, zf_12]); have y4 : V2.cell? ⟨w2.heap.size, 4, none⟩ = some (.int .u16 dp) := (hcV2 w2.heap.size 4 (by omega)).trans (by simp [go_sem, f4_12, zf_12]); have y5 : V2.cell? ⟨w2.heap.size, 5, none⟩ = some (.int .u8 q0) := (hcV2 w2.heap.size 5 (by omega)).trans (by simp [go_sem, f5_12, zf_12]); have zy : w2.heap.size < V2.heap.size := (by rw [hz2]; simp; omega); have zb : w12.heap.size + 1 < V2.heap.size := (by rw [hz2]; simp); have cj := rcell' (j := 5) R2 rfl; have fj := tfree (tV2 (w12.heap.size + 1) 0 19 (by (repeat (first | (refine there_new _ _ _ _ _ ?_ rfl; first | rfl | (simp; done)) | refine World.there_alloc ?_ _)))) 5 (by decide); have R3 : (V2.setCell ⟨(w12.heap.size + 1), 5, none⟩ (.int .u8 4)).rangeAt (w12.heap.size + 1) 0 (gF c1 4 ty c0 c1 c2 c3 c4 kv by').toList := range_put R2 5 (.int .u8 4) fj; have e3 := e2.setCell (p := ⟨(w12.heap.size + 1), 5, none⟩) (by show w.heap.size ≤ w12.heap.size + 1; omega) (.int .u8 4); have ny : w2.heap.size ≠ w12.heap.size + 1 := (by omega); have ny' : w12.heap.size + 1 ≠ w2.heap.size := (by omega); clear hcV2 kV2 tV2 hz2) | (refine wpList_load_wide 29 _ rfl (by rfl) _ _ rfl (gF c1 5 ty c0 c1 c2 c3 c4 kv by') _ Tryd.underlying29 rfl (hi_gF c1 5 ty c0 c1 c2 c3 c4 kv by') ?_ ?_; · (repeat (first | with_reducible exact R_12 | refine World.rangeAt_alloc ?_ _))) | (refine wpList_load_wide 29 _ rfl (by rfl) _ _ rfl (gF c1 4 ty c0 c1 c2 c3 c4 kv by') _ Tryd.underlying29 rfl (hi_gF c1 4 ty c0 c1 c2 c3 c4 kv by') ?_ ?_; · (repeat (first | with_reducible exact R3 | refine World.rangeAt_alloc ?_ _))))
  refine (H8.out _ (HT.out.below (by (repeat' (first | with_reducible exact e3 | refine Below.setCell ?_ (by first | omega | (simp; done) | (simp; omega)) _ | refine Below.alloc ?_ (by first | omega | (simp; done) | (simp; omega)) _))))).mono ?_
  rintro e w13 ⟨rfl, hb⟩
  have b13 := bthen e3 hb
  clear hb
  go_wp2_with fail
  go_ret
  exact ⟨rfl, b13⟩

set_option maxRecDepth 100000 in
set_option maxHeartbeats 16000000 in
theorem belongs_3 (p s d sp dp side dir by' way : Int) (P S E q0 c0 c1 c2 c3 c4 ty kv fr q1 : Int) (w : World) (HT : Hid (Tabs w))
    (HR : Hid (∀ W, Calls Tryd.prog 13 #[.agg #[.int .u8 p, .int .u32 s, .int .u32 d, .int .u16 sp, .int .u16 dp], .int .u8 side] W fun e w' => e = .returned (.agg #[.int .u8 P, .int .u32 S, .int .u32 E, .int .u16 sp, .int .u16 dp, .int .u8 q0]) ∧ Below W.heap.size W w'))
    (HG : Hid (∀ W, Tabs W → Calls Tryd.prog 14 #[.agg #[.int .u8 P, .int .u32 S, .int .u32 E, .int .u16 sp, .int .u16 dp, .int .u8 q0], .int .u8 dir, .int .u32 by'] W fun e w' => e = .returned (.tuple #[.agg (gF c1 5 ty c0 c1 c2 c3 c4 kv by'), .int .u8 fr, .bool true]) ∧ Below W.heap.size W w'))
    (hP : Hid (0 ≤ P ∧ P ≤ 255)) (hq0 : Hid (0 ≤ q0)) (hfr : 0 ≤ fr) (hfr1 : fr ≤ 1) (hk2 : 0 ≤ c2) (hk2' : c2 ≤ 4294967295) (hk3 : 0 ≤ c3) (hk3' : c3 ≤ 65535) (hk4 : 0 ≤ c4) (hk4' : c4 ≤ 65535) (hdir : 0 ≤ dir) (hdir' : dir ≤ 255) (hway : 0 ≤ way) (hway' : way ≤ 255)
    (HF : Hid (Fa (gF c1 5 ty c0 c1 c2 c3 c4 kv by') c1 5 ty c0 c1 c2 c3 c4 kv)) (HGF : Hid (Fa (gF c1 5 5 c0 c1 c2 c3 c4 kv by') c1 5 5 c0 c1 c2 c3 c4 kv)) (Hyes : Hid (quo P S E sp dp q0 c1 5 ty c0 c1 c2 c3 c4 kv fr = (q1, true))) (Hcan : Hid (can c1 5 ty c0 c1 kv = true)) (Hno : Hid (quo P S E sp dp q0 c1 5 5 c0 c1 c2 c3 c4 kv fr = (0, false)))
    (HQ1 : Hid (dir % 2 = q1)) (HQ1' : Hid (dir.tmod 2 = q1)) (HW : Hid (way % 9 = 3)) (HW' : Hid (way.tmod 9 = 3)) :
    Calls Tryd.prog 4 #[.agg #[.int .u8 p, .int .u32 s, .int .u32 d, .int .u16 sp, .int .u16 dp], .int .u8 side, .int .u8 dir, .int .u32 by', .int .u8 way] w fun e w' => e = .returned (.bool true) ∧ Below w.heap.size w w' := by
  have H5 := Lib.hid (fun W (hW : Tabs W) => quotes_is (gF c1 5 ty c0 c1 c2 c3 c4 kv by') P S E sp dp q0 c1 5 ty c0 c1 c2 c3 c4 kv fr q1 true W HF.out hW hP.out hq0.out hfr Hyes.out)
  have HLk := Lib.hid (fun W (hW : Tabs W) => lookup_below (gF c1 5 ty c0 c1 c2 c3 c4 kv by') c1 5 ty c0 c1 c2 c3 c4 kv W HF.out hW)
  rw [Hcan.out] at HLk
  simp only [pk, if_true] at HLk
  have H8 := Lib.hid (fun W (hW : Tabs W) => quotes_is (gF c1 5 5 c0 c1 c2 c3 c4 kv by') P S E sp dp q0 c1 5 5 c0 c1 c2 c3 c4 kv fr 0 false W HGF.out hW hP.out hq0.out (by omega) Hno.out)
  clear HF HGF Hyes Hcan Hno hP hq0
  go_enter Tryd.func4, Tryd.ntmps4
  go_wp2_with fail
  refine (awake_any _ (HT.out.below (by (repeat' (first | exact Below.refl _ _ | refine Below.setCell ?_ (by first | omega | (simp; done) | (simp; omega)) _ | refine Below.alloc ?_ (by first | omega | (simp; done) | (simp; omega)) _))))).mono ?_
  rintro e w1 ⟨rfl, hb⟩
  have b1 : Below w.heap.size w w1 := bthen (by (repeat' (first | exact Below.refl _ _ | refine Below.setCell ?_ (by first | omega | (simp; done) | (simp; omega)) _ | refine Below.alloc ?_ (by first | omega | (simp; done) | (simp; omega)) _))) hb
  have d1 : Below w.heap.size w w1 := b1
  have k1 : w.heap.size ≤ w1.heap.size := d1.size
  have x0_1 : w1.cell? ⟨w.heap.size, 0, none⟩ = some (.int .u8 p) := (hb.cell (p := ⟨w.heap.size, 0, none⟩) (by first | (simp; done) | (simp; omega))).trans (by simp [go_sem])
  have x1_1 : w1.cell? ⟨w.heap.size, 1, none⟩ = some (.int .u32 s) := (hb.cell (p := ⟨w.heap.size, 1, none⟩) (by first | (simp; done) | (simp; omega))).trans (by simp [go_sem])
  have x2_1 : w1.cell? ⟨w.heap.size, 2, none⟩ = some (.int .u32 d) := (hb.cell (p := ⟨w.heap.size, 2, none⟩) (by first | (simp; done) | (simp; omega))).trans (by simp [go_sem])
  have x3_1 : w1.cell? ⟨w.heap.size, 3, none⟩ = some (.int .u16 sp) := (hb.cell (p := ⟨w.heap.size, 3, none⟩) (by first | (simp; done) | (simp; omega))).trans (by simp [go_sem])
  have x4_1 : w1.cell? ⟨w.heap.size, 4, none⟩ = some (.int .u16 dp) := (hb.cell (p := ⟨w.heap.size, 4, none⟩) (by first | (simp; done) | (simp; omega))).trans (by simp [go_sem])
  have zx_1 : w.heap.size < w1.heap.size := by have := hb.size; simp at this; omega
  clear hb
  go_wp2_with fail
  refine (HR.out _).mono ?_
  rintro e w2 ⟨rfl, hb⟩
  have b2 : Below w1.heap.size w1 w2 := bthen (by (repeat' (first | exact Below.refl _ _ | refine Below.setCell ?_ (by first | omega | (simp; done) | (simp; omega)) _ | refine Below.alloc ?_ (by first | omega | (simp; done) | (simp; omega)) _))) hb
  have d2 : Below w.heap.size w w2 := bthen d1 b2
  have k2 : w.heap.size ≤ w2.heap.size := d2.size
  have x0_2 : w2.cell? ⟨w.heap.size, 0, none⟩ = some (.int .u8 p) := (b2.cell (p := ⟨w.heap.size, 0, none⟩) (by show w.heap.size < w1.heap.size; omega)).trans x0_1
  have x1_2 : w2.cell? ⟨w.heap.size, 1, none⟩ = some (.int .u32 s) := (b2.cell (p := ⟨w.heap.size, 1, none⟩) (by show w.heap.size < w1.heap.size; omega)).trans x1_1
  have x2_2 : w2.cell? ⟨w.heap.size, 2, none⟩ = some (.int .u32 d) := (b2.cell (p := ⟨w.heap.size, 2, none⟩) (by show w.heap.size < w1.heap.size; omega)).trans x2_1
  have x3_2 : w2.cell? ⟨w.heap.size, 3, none⟩ = some (.int .u16 sp) := (b2.cell (p := ⟨w.heap.size, 3, none⟩) (by show w.heap.size < w1.heap.size; omega)).trans x3_1
  have x4_2 : w2.cell? ⟨w.heap.size, 4, none⟩ = some (.int .u16 dp) := (b2.cell (p := ⟨w.heap.size, 4, none⟩) (by show w.heap.size < w1.heap.size; omega)).trans x4_1
  have zx_2 : w.heap.size < w2.heap.size := Nat.lt_of_lt_of_le zx_1 b2.size
  clear hb b2 d1 k1 x0_1 x1_1 x2_1 x3_1 x4_1 zx_1
  clear x0_2 x1_2 x2_2 x3_2 x4_2 zx_2
  go_wp2_with fail
  refine (HG.out _ (HT.out.below (by (repeat' (first | with_reducible exact d2 | refine Below.setCell ?_ (by first | omega | (simp; done) | (simp; omega)) _ | refine Below.alloc ?_ (by first | omega | (simp; done) | (simp; omega)) _))))).mono ?_
  rintro e w3 ⟨rfl, hb⟩
  have b3 : Below w2.heap.size w2 w3 := bthen (by (repeat' (first | exact Below.refl _ _ | refine Below.setCell ?_ (by first | omega | (simp; done) | (simp; omega)) _ | refine Below.alloc ?_ (by first | omega | (simp; done) | (simp; omega)) _))) hb
  have d3 : Below w.heap.size w w3 := bthen d2 b3
  have k3 : w.heap.size ≤ w3.heap.size := d3.size
  have f0_3 : w3.cell? ⟨w2.heap.size, 0, none⟩ = some (.int .u8 P) := (hb.cell (p := ⟨w2.heap.size, 0, none⟩) (by first | (simp; done) | (simp; omega))).trans (by simp [go_sem])
  have f1_3 : w3.cell? ⟨w2.heap.size, 1, none⟩ = some (.int .u32 S) := (hb.cell (p := ⟨w2.heap.size, 1, none⟩) (by first | (simp; done) | (simp; omega))).trans (by simp [go_sem])
  have f2_3 : w3.cell? ⟨w2.heap.size, 2, none⟩ = some (.int .u32 E) := (hb.cell (p := ⟨w2.heap.size, 2, none⟩) (by first | (simp; done) | (simp; omega))).trans (by simp [go_sem])
  have f3_3 : w3.cell? ⟨w2.heap.size, 3, none⟩ = some (.int .u16 sp) := (hb.cell (p := ⟨w2.heap.size, 3, none⟩) (by first | (simp; done) | (simp; omega))).trans (by simp [go_sem])
  have f4_3 : w3.cell? ⟨w2.heap.size, 4, none⟩ = some (.int .u16 dp) := (hb.cell (p := ⟨w2.heap.size, 4, none⟩) (by first | (simp; done) | (simp; omega))).trans (by simp [go_sem])
  have f5_3 : w3.cell? ⟨w2.heap.size, 5, none⟩ = some (.int .u8 q0) := (hb.cell (p := ⟨w2.heap.size, 5, none⟩) (by first | (simp; done) | (simp; omega))).trans (by simp [go_sem])
  have zf_3 : w2.heap.size < w3.heap.size := by have := hb.size; simp at this; omega
  clear hb b3 d2 k2
  go_wp2_with (first | (refine wpList_store_wide 29 (.tmp 12) (.tmp 31) rfl rfl w3.heap.size 0 (gF c1 5 ty c0 c1 c2 c3 c4 kv by') rfl rfl w.heap.size w (hi_gF c1 5 ty c0 c1 c2 c3 c4 kv by') (ho_gF c1 5 ty c0 c1 c2 c3 c4 kv by') ?_ (by omega) ?_ ?_; (· (repeat' (first | with_reducible exact d3 | refine Below.setCell ?_ (by first | omega | (simp; done) | (simp; omega)) _ | refine Below.alloc ?_ (by first | omega | (simp; done) | (simp; omega)) _))); (· (repeat (first | (refine there_new _ _ _ _ _ ?_ rfl; first | rfl | (simp; done)) | refine World.there_alloc ?_ _))); intro V d10 hzV R_10 kV tV hcV; have f0_10 : V.cell? ⟨w2.heap.size, 0, none⟩ = some (.int .u8 P) := (hcV w2.heap.size 0 (by omega)).trans (by simp [go_sem, f0_3, zf_3]); have f1_10 : V.cell? ⟨w2.heap.size, 1, none⟩ = some (.int .u32 S) := (hcV w2.heap.size 1 (by omega)).trans (by simp [go_sem, f1_3, zf_3]); have f2_10 : V.cell? ⟨w2.heap.size, 2, none⟩ = some (.int .u32 E) := (hcV w2.heap.size 2 (by omega)).trans (by simp [go_sem, f2_3, zf_3]); have f3_10 : V.cell? ⟨w2.heap.size, 3, none⟩ = some (.int .u16 sp) := (hcV w2.heap.size 3 (by omega)).trans (by simp [go_sem, f3_3, zf_3]); have f4_10 : V.cell? ⟨w2.heap.size, 4, none⟩ = some (.int .u16 dp) := (hcV w2.heap.size 4 (by omega)).trans (by simp [go_sem, f4_3, zf_3]); have f5_10 : V.cell? ⟨w2.heap.size, 5, none⟩ = some (.int .u8 q0) := (hcV w2.heap.size 5 (by omega)).trans (by simp [go_sem, f5_3, zf_3]); have zf_10 : w2.heap.size < V.heap.size := (by rw [hzV]; simp; omega); have zR_10 : w3.heap.size < V.heap.size := (by rw [hzV]; simp); clear hcV hzV kV tV) | (refine wpList_load_wide 29 _ rfl (by rfl) _ _ rfl (gF c1 5 ty c0 c1 c2 c3 c4 kv by') _ Tryd.underlying29 rfl (hi_gF c1 5 ty c0 c1 c2 c3 c4 kv by') ?_ ?_; · (repeat (first | with_reducible exact R_10 | refine World.rangeAt_alloc ?_ _))))
  have k10 : w.heap.size ≤ V.heap.size := d10.size
  have nfR : w2.heap.size < w3.heap.size := zf_3
  clear f0_3 f1_3 f2_3 f3_3 f4_3 f5_3 zf_3 d3
  refine (H5.out _ (HT.out.below (by (repeat' (first | with_reducible exact d10 | refine Below.setCell ?_ (by first | omega | (simp; done) | (simp; omega)) _ | refine Below.alloc ?_ (by first | omega | (simp; done) | (simp; omega)) _))))).mono ?_
  rintro e w11 ⟨rfl, hb⟩
  have b11 : Below V.heap.size V w11 := bthen (by (repeat' (first | exact Below.refl _ _ | refine Below.setCell ?_ (by first | omega | (simp; done) | (simp; omega)) _ | refine Below.alloc ?_ (by first | omega | (simp; done) | (simp; omega)) _))) hb
  have d11 : Below w.heap.size w w11 := bthen d10 b11
  have k11 : w.heap.size ≤ w11.heap.size := d11.size
  have R_11 : w11.rangeAt (w3.heap.size) 0 ((gF c1 5 ty c0 c1 c2 c3 c4 kv by')).toList := range_below b11 (by omega) R_10
  have zR_11 : w3.heap.size < w11.heap.size := Nat.lt_of_lt_of_le zR_10 b11.size
  have f0_11 : w11.cell? ⟨w2.heap.size, 0, none⟩ = some (.int .u8 P) := (b11.cell (p := ⟨w2.heap.size, 0, none⟩) (by show w2.heap.size < V.heap.size; omega)).trans f0_10
  have f1_11 : w11.cell? ⟨w2.heap.size, 1, none⟩ = some (.int .u32 S) := (b11.cell (p := ⟨w2.heap.size, 1, none⟩) (by show w2.heap.size < V.heap.size; omega)).trans f1_10
  have f2_11 : w11.cell? ⟨w2.heap.size, 2, none⟩ = some (.int .u32 E) := (b11.cell (p := ⟨w2.heap.size, 2, none⟩) (by show w2.heap.size < V.heap.size; omega)).trans f2_10
  have f3_11 : w11.cell? ⟨w2.heap.size, 3, none⟩ = some (.int .u16 sp) := (b11.cell (p := ⟨w2.heap.size, 3, none⟩) (by show w2.heap.size < V.heap.size; omega)).trans f3_10
  have f4_11 : w11.cell? ⟨w2.heap.size, 4, none⟩ = some (.int .u16 dp) := (b11.cell (p := ⟨w2.heap.size, 4, none⟩) (by show w2.heap.size < V.heap.size; omega)).trans f4_10
  have f5_11 : w11.cell? ⟨w2.heap.size, 5, none⟩ = some (.int .u8 q0) := (b11.cell (p := ⟨w2.heap.size, 5, none⟩) (by show w2.heap.size < V.heap.size; omega)).trans f5_10
  have zf_11 : w2.heap.size < w11.heap.size := Nat.lt_of_lt_of_le zf_10 b11.size
  clear hb b11 d10 k10 R_10 zR_10 f0_10 f1_10 f2_10 f3_10 f4_10 f5_10 zf_10
  go_wp2_with (refine wpList_load_wide 29 _ rfl (by rfl) _ _ rfl (gF c1 5 ty c0 c1 c2 c3 c4 kv by') _ Tryd.underlying29 rfl (hi_gF c1 5 ty c0 c1 c2 c3 c4 kv by') ?_ ?_; · (repeat (first | with_reducible exact R_11 | refine World.rangeAt_alloc ?_ _)))
  refine (HLk.out _ (HT.out.below (by (repeat' (first | with_reducible exact d11 | refine Below.setCell ?_ (by first | omega | (simp; done) | (simp; omega)) _ | refine Below.alloc ?_ (by first | omega | (simp; done) | (simp; omega)) _))))).mono ?_
  rintro e w12 ⟨rfl, hb⟩
  have b12 : Below w11.heap.size w11 w12 := bthen (by (repeat' (first | exact Below.refl _ _ | refine Below.setCell ?_ (by first | omega | (simp; done) | (simp; omega)) _ | refine Below.alloc ?_ (by first | omega | (simp; done) | (simp; omega)) _))) hb
  have d12 : Below w.heap.size w w12 := bthen d11 b12
  have k12 : w.heap.size ≤ w12.heap.size := d12.size
  have R_12 : w12.rangeAt (w3.heap.size) 0 ((gF c1 5 ty c0 c1 c2 c3 c4 kv by')).toList := range_below b12 (by omega) R_11
  have zR_12 : w3.heap.size < w12.heap.size := Nat.lt_of_lt_of_le zR_11 b12.size
  have f0_12 : w12.cell? ⟨w2.heap.size, 0, none⟩ = some (.int .u8 P) := (b12.cell (p := ⟨w2.heap.size, 0, none⟩) (by show w2.heap.size < w11.heap.size; omega)).trans f0_11
  have f1_12 : w12.cell? ⟨w2.heap.size, 1, none⟩ = some (.int .u32 S) := (b12.cell (p := ⟨w2.heap.size, 1, none⟩) (by show w2.heap.size < w11.heap.size; omega)).trans f1_11
  have f2_12 : w12.cell? ⟨w2.heap.size, 2, none⟩ = some (.int .u32 E) := (b12.cell (p := ⟨w2.heap.size, 2, none⟩) (by show w2.heap.size < w11.heap.size; omega)).trans f2_11
  have f3_12 : w12.cell? ⟨w2.heap.size, 3, none⟩ = some (.int .u16 sp) := (b12.cell (p := ⟨w2.heap.size, 3, none⟩) (by show w2.heap.size < w11.heap.size; omega)).trans f3_11
  have f4_12 : w12.cell? ⟨w2.heap.size, 4, none⟩ = some (.int .u16 dp) := (b12.cell (p := ⟨w2.heap.size, 4, none⟩) (by show w2.heap.size < w11.heap.size; omega)).trans f4_11
  have f5_12 : w12.cell? ⟨w2.heap.size, 5, none⟩ = some (.int .u8 q0) := (b12.cell (p := ⟨w2.heap.size, 5, none⟩) (by show w2.heap.size < w11.heap.size; omega)).trans f5_11
  have zf_12 : w2.heap.size < w12.heap.size := Nat.lt_of_lt_of_le zf_11 b12.size
  clear hb b12 d11 k11 R_11 zR_11 f0_11 f1_11 f2_11 f3_11 f4_11 f5_11 zf_11
  have g0 : w12.cell? ⟨w3.heap.size, 13, none⟩ = some (.int .u8 c0) := rcell' R_12 rfl
  have g1 : w12.cell? ⟨w3.heap.size, 14, none⟩ = some (.int .u32 c1) := rcell' R_12 rfl
  have g2 : w12.cell? ⟨w3.heap.size, 15, none⟩ = some (.int .u32 c2) := rcell' R_12 rfl
  have g3 : w12.cell? ⟨w3.heap.size, 16, none⟩ = some (.int .u16 c3) := rcell' R_12 rfl
  have g4 : w12.cell? ⟨w3.heap.size, 17, none⟩ = some (.int .u16 c4) := rcell' R_12 rfl
  have HN := fun W => key_neq c0 c1 c2 c3 c4 W
  have h1 := HQ1.out
  have h2 := HQ1'.out
  have h3 := HW.out
  have h4 := HW'.out
  go_wp2_with (first | (refine wpList_store_wide 29 (.tmp 19) (.tmp 68) rfl rfl (w12.heap.size + 1) 0 (gF c1 5 ty c0 c1 c2 c3 c4 kv by') rfl rfl w.heap.size w (hi_gF c1 5 ty c0 c1 c2 c3 c4 kv by') (ho_gF c1 5 ty c0 c1 c2 c3 c4 kv by') ?_ (by omega) ?_ ?_; (· (repeat' (first | with_reducible exact d12 | refine Below.setCell ?_ (by first | omega | (simp; done) | (simp; omega)) _ | refine Below.alloc ?_ (by first | omega | (simp; done) | (simp; omega)) _))); (· (repeat (first | (refine there_new _ _ _ _ _ ?_ rfl; first | rfl | (simp; done)) | refine World.there_alloc ?_ _))); intro V2 e2 hz2 R2 kV2 tV2 hcV2; have y0 : V2.cell? ⟨w2.heap.size, 0, none⟩ = some (.int .u8 P) := (hcV2 w2.heap.size 0 (by omega)).trans (by simp [go_sem, f0_12, zf_12]); have y1 : V2.cell? ⟨w2.heap.size, 1, none⟩ = some (.int .u32 S) := (hcV2 w2.heap.size 1 (by omega)).trans (by simp [go_sem, f1_12, zf_12]); have y2 : V2.cell? ⟨w2.heap.size, 2, none⟩ = some (.int .u32 E) := (hcV2 w2.heap.size 2 (by omega)).trans (by simp [go_sem, f2_12, zf_12]); have y3 : V2.cell? ⟨w2.heap.size, 3, none⟩ = some (.int .u16 sp) := (hcV2 w2.heap.size 3 (by omega)).trans (by simp [go_sem, f3_12, zf_12]); have y4 : V2.cell? ⟨w2.heap.size, 4, none⟩ = some (.int .u16 dp) := (hcV2 w2.heap.size 4 (by omega)).trans (by simp [go_sem, f4_12, zf_12]); have y5 : V2.cell? ⟨w2.heap.size, 5, none⟩ = some (.int .u8 q0) := (hcV2 w2.heap.size 5 (by omega)).trans (by simp [go_sem, f5_12, zf_12]); have zy : w2.heap.size < V2.heap.size := (by rw [hz2]; simp; omega); have zb : w12.heap.size + 1 < V2.heap.size := (by rw [hz2]; simp); have cj := rcell' (j := 7) R2 rfl; have fj := tfree (tV2 (w12.heap.size + 1) 0 19 (by (repeat (first | (refine there_new _ _ _ _ _ ?_ rfl; first | rfl | (simp; done)) | refine World.there_alloc ?_ _)))) 7 (by decide); have R3 : (V2.setCell ⟨(w12.heap.size + 1), 7, none⟩ (.int .u8 5)).rangeAt (w12.heap.size + 1) 0 (gF c1 5 5 c0 c1 c2 c3 c4 kv by').toList := range_put R2 7 (.int .u8 5) fj; have e3 := e2.setCell (p := ⟨(w12.heap.size + 1), 7, none⟩) (by show w.heap.size ≤ w12.heap.size + 1; omega) (.int .u8 5); have ny : w2.heap.size ≠ w12.heap.size + 1 := (by omega); have ny' : w12.heap.size + 1 ≠ w2.heap.size := (by omega); clear hcV2 kV2 tV2 hz2) | (refine wpList_load_wide 29 _ rfl (by rfl) _ _ rfl (gF c1 5 ty c0 c1 c2 c3 c4 kv by') _ Tryd.underlying29 rfl (hi_gF c1 5 ty c0 c1 c2 c3 c4 kv by') ?_ ?_; · (repeat (first | with_reducible exact R_12 | refine World.rangeAt_alloc ?_ _))) | (refine wpList_load_wide 29 _ rfl (by rfl) _ _ rfl (gF c1 5 5 c0 c1 c2 c3 c4 kv by') _ Tryd.underlying29 rfl (hi_gF c1 5 5 c0 c1 c2 c3 c4 kv by') ?_ ?_; · (repeat (first | with_reducible exact R3 | refine World.rangeAt_alloc ?_ _))))
  refine (H8.out _ (HT.out.below (by (repeat' (first | with_reducible exact e3 | refine Below.setCell ?_ (by first | omega | (simp; done) | (simp; omega)) _ | refine Below.alloc ?_ (by first | omega | (simp; done) | (simp; omega)) _))))).mono ?_
  rintro e w13 ⟨rfl, hb⟩
  have b13 := bthen e3 hb
  clear hb
  go_wp2_with fail
  go_ret
  exact ⟨rfl, b13⟩

set_option maxRecDepth 100000 in
set_option maxHeartbeats 16000000 in
theorem belongs_4 (p s d sp dp side dir by' way : Int) (P S E q0 c0 c1 c2 c3 c4 ty kv fr q1 : Int) (w : World) (HT : Hid (Tabs w))
    (HR : Hid (∀ W, Calls Tryd.prog 13 #[.agg #[.int .u8 p, .int .u32 s, .int .u32 d, .int .u16 sp, .int .u16 dp], .int .u8 side] W fun e w' => e = .returned (.agg #[.int .u8 P, .int .u32 S, .int .u32 E, .int .u16 sp, .int .u16 dp, .int .u8 q0]) ∧ Below W.heap.size W w'))
    (HG : Hid (∀ W, Tabs W → Calls Tryd.prog 14 #[.agg #[.int .u8 P, .int .u32 S, .int .u32 E, .int .u16 sp, .int .u16 dp, .int .u8 q0], .int .u8 dir, .int .u32 by'] W fun e w' => e = .returned (.tuple #[.agg (gF c1 5 ty c0 c1 c2 c3 c4 kv by'), .int .u8 fr, .bool true]) ∧ Below W.heap.size W w'))
    (hP : Hid (0 ≤ P ∧ P ≤ 255)) (hq0 : Hid (0 ≤ q0)) (hfr : 0 ≤ fr) (hfr1 : fr ≤ 1) (hk2 : 0 ≤ c2) (hk2' : c2 ≤ 4294967295) (hk3 : 0 ≤ c3) (hk3' : c3 ≤ 65535) (hk4 : 0 ≤ c4) (hk4' : c4 ≤ 65535) (hdir : 0 ≤ dir) (hdir' : dir ≤ 255) (hway : 0 ≤ way) (hway' : way ≤ 255)
    (HF : Hid (Fa (gF c1 5 ty c0 c1 c2 c3 c4 kv by') c1 5 ty c0 c1 c2 c3 c4 kv)) (HGF : Hid (Fa (gF c1 5 ty c0 c1 c2 (IntKind.u16.wrap (c3 + 1)) c4 kv by') c1 5 ty c0 c1 c2 (IntKind.u16.wrap (c3 + 1)) c4 kv)) (Hyes : Hid (quo P S E sp dp q0 c1 5 ty c0 c1 c2 c3 c4 kv fr = (q1, true))) (Hcan : Hid (can c1 5 ty c0 c1 kv = true)) (Hno : Hid (quo P S E sp dp q0 c1 5 ty c0 c1 c2 (IntKind.u16.wrap (c3 + 1)) c4 kv fr = (0, false)))
    (HQ1 : Hid (dir % 2 = q1)) (HQ1' : Hid (dir.tmod 2 = q1)) (HW : Hid (way % 9 = 4)) (HW' : Hid (way.tmod 9 = 4)) :
    Calls Tryd.prog 4 #[.agg #[.int .u8 p, .int .u32 s, .int .u32 d, .int .u16 sp, .int .u16 dp], .int .u8 side, .int .u8 dir, .int .u32 by', .int .u8 way] w fun e w' => e = .returned (.bool true) ∧ Below w.heap.size w w' := by
  have H5 := Lib.hid (fun W (hW : Tabs W) => quotes_is (gF c1 5 ty c0 c1 c2 c3 c4 kv by') P S E sp dp q0 c1 5 ty c0 c1 c2 c3 c4 kv fr q1 true W HF.out hW hP.out hq0.out hfr Hyes.out)
  have HLk := Lib.hid (fun W (hW : Tabs W) => lookup_below (gF c1 5 ty c0 c1 c2 c3 c4 kv by') c1 5 ty c0 c1 c2 c3 c4 kv W HF.out hW)
  rw [Hcan.out] at HLk
  simp only [pk, if_true] at HLk
  have H8 := Lib.hid (fun W (hW : Tabs W) => quotes_is (gF c1 5 ty c0 c1 c2 (IntKind.u16.wrap (c3 + 1)) c4 kv by') P S E sp dp q0 c1 5 ty c0 c1 c2 (IntKind.u16.wrap (c3 + 1)) c4 kv fr 0 false W HGF.out hW hP.out hq0.out (by omega) Hno.out)
  clear HF HGF Hyes Hcan Hno hP hq0
  go_enter Tryd.func4, Tryd.ntmps4
  go_wp2_with fail
  refine (awake_any _ (HT.out.below (by (repeat' (first | exact Below.refl _ _ | refine Below.setCell ?_ (by first | omega | (simp; done) | (simp; omega)) _ | refine Below.alloc ?_ (by first | omega | (simp; done) | (simp; omega)) _))))).mono ?_
  rintro e w1 ⟨rfl, hb⟩
  have b1 : Below w.heap.size w w1 := bthen (by (repeat' (first | exact Below.refl _ _ | refine Below.setCell ?_ (by first | omega | (simp; done) | (simp; omega)) _ | refine Below.alloc ?_ (by first | omega | (simp; done) | (simp; omega)) _))) hb
  have d1 : Below w.heap.size w w1 := b1
  have k1 : w.heap.size ≤ w1.heap.size := d1.size
  have x0_1 : w1.cell? ⟨w.heap.size, 0, none⟩ = some (.int .u8 p) := (hb.cell (p := ⟨w.heap.size, 0, none⟩) (by first | (simp; done) | (simp; omega))).trans (by simp [go_sem])
  have x1_1 : w1.cell? ⟨w.heap.size, 1, none⟩ = some (.int .u32 s) := (hb.cell (p := ⟨w.heap.size, 1, none⟩) (by first | (simp; done) | (simp; omega))).trans (by simp [go_sem])
  have x2_1 : w1.cell? ⟨w.heap.size, 2, none⟩ = some (.int .u32 d) := (hb.cell (p := ⟨w.heap.size, 2, none⟩) (by first | (simp; done) | (simp; omega))).trans (by simp [go_sem])
  have x3_1 : w1.cell? ⟨w.heap.size, 3, none⟩ = some (.int .u16 sp) := (hb.cell (p := ⟨w.heap.size, 3, none⟩) (by first | (simp; done) | (simp; omega))).trans (by simp [go_sem])
  have x4_1 : w1.cell? ⟨w.heap.size, 4, none⟩ = some (.int .u16 dp) := (hb.cell (p := ⟨w.heap.size, 4, none⟩) (by first | (simp; done) | (simp; omega))).trans (by simp [go_sem])
  have zx_1 : w.heap.size < w1.heap.size := by have := hb.size; simp at this; omega
  clear hb
  go_wp2_with fail
  refine (HR.out _).mono ?_
  rintro e w2 ⟨rfl, hb⟩
  have b2 : Below w1.heap.size w1 w2 := bthen (by (repeat' (first | exact Below.refl _ _ | refine Below.setCell ?_ (by first | omega | (simp; done) | (simp; omega)) _ | refine Below.alloc ?_ (by first | omega | (simp; done) | (simp; omega)) _))) hb
  have d2 : Below w.heap.size w w2 := bthen d1 b2
  have k2 : w.heap.size ≤ w2.heap.size := d2.size
  have x0_2 : w2.cell? ⟨w.heap.size, 0, none⟩ = some (.int .u8 p) := (b2.cell (p := ⟨w.heap.size, 0, none⟩) (by show w.heap.size < w1.heap.size; omega)).trans x0_1
  have x1_2 : w2.cell? ⟨w.heap.size, 1, none⟩ = some (.int .u32 s) := (b2.cell (p := ⟨w.heap.size, 1, none⟩) (by show w.heap.size < w1.heap.size; omega)).trans x1_1
  have x2_2 : w2.cell? ⟨w.heap.size, 2, none⟩ = some (.int .u32 d) := (b2.cell (p := ⟨w.heap.size, 2, none⟩) (by show w.heap.size < w1.heap.size; omega)).trans x2_1
  have x3_2 : w2.cell? ⟨w.heap.size, 3, none⟩ = some (.int .u16 sp) := (b2.cell (p := ⟨w.heap.size, 3, none⟩) (by show w.heap.size < w1.heap.size; omega)).trans x3_1
  have x4_2 : w2.cell? ⟨w.heap.size, 4, none⟩ = some (.int .u16 dp) := (b2.cell (p := ⟨w.heap.size, 4, none⟩) (by show w.heap.size < w1.heap.size; omega)).trans x4_1
  have zx_2 : w.heap.size < w2.heap.size := Nat.lt_of_lt_of_le zx_1 b2.size
  clear hb b2 d1 k1 x0_1 x1_1 x2_1 x3_1 x4_1 zx_1
  clear x0_2 x1_2 x2_2 x3_2 x4_2 zx_2
  go_wp2_with fail
  refine (HG.out _ (HT.out.below (by (repeat' (first | with_reducible exact d2 | refine Below.setCell ?_ (by first | omega | (simp; done) | (simp; omega)) _ | refine Below.alloc ?_ (by first | omega | (simp; done) | (simp; omega)) _))))).mono ?_
  rintro e w3 ⟨rfl, hb⟩
  have b3 : Below w2.heap.size w2 w3 := bthen (by (repeat' (first | exact Below.refl _ _ | refine Below.setCell ?_ (by first | omega | (simp; done) | (simp; omega)) _ | refine Below.alloc ?_ (by first | omega | (simp; done) | (simp; omega)) _))) hb
  have d3 : Below w.heap.size w w3 := bthen d2 b3
  have k3 : w.heap.size ≤ w3.heap.size := d3.size
  have f0_3 : w3.cell? ⟨w2.heap.size, 0, none⟩ = some (.int .u8 P) := (hb.cell (p := ⟨w2.heap.size, 0, none⟩) (by first | (simp; done) | (simp; omega))).trans (by simp [go_sem])
  have f1_3 : w3.cell? ⟨w2.heap.size, 1, none⟩ = some (.int .u32 S) := (hb.cell (p := ⟨w2.heap.size, 1, none⟩) (by first | (simp; done) | (simp; omega))).trans (by simp [go_sem])
  have f2_3 : w3.cell? ⟨w2.heap.size, 2, none⟩ = some (.int .u32 E) := (hb.cell (p := ⟨w2.heap.size, 2, none⟩) (by first | (simp; done) | (simp; omega))).trans (by simp [go_sem])
  have f3_3 : w3.cell? ⟨w2.heap.size, 3, none⟩ = some (.int .u16 sp) := (hb.cell (p := ⟨w2.heap.size, 3, none⟩) (by first | (simp; done) | (simp; omega))).trans (by simp [go_sem])
  have f4_3 : w3.cell? ⟨w2.heap.size, 4, none⟩ = some (.int .u16 dp) := (hb.cell (p := ⟨w2.heap.size, 4, none⟩) (by first | (simp; done) | (simp; omega))).trans (by simp [go_sem])
  have f5_3 : w3.cell? ⟨w2.heap.size, 5, none⟩ = some (.int .u8 q0) := (hb.cell (p := ⟨w2.heap.size, 5, none⟩) (by first | (simp; done) | (simp; omega))).trans (by simp [go_sem])
  have zf_3 : w2.heap.size < w3.heap.size := by have := hb.size; simp at this; omega
  clear hb b3 d2 k2
  go_wp2_with (first | (refine wpList_store_wide 29 (.tmp 12) (.tmp 31) rfl rfl w3.heap.size 0 (gF c1 5 ty c0 c1 c2 c3 c4 kv by') rfl rfl w.heap.size w (hi_gF c1 5 ty c0 c1 c2 c3 c4 kv by') (ho_gF c1 5 ty c0 c1 c2 c3 c4 kv by') ?_ (by omega) ?_ ?_; (· (repeat' (first | with_reducible exact d3 | refine Below.setCell ?_ (by first | omega | (simp; done) | (simp; omega)) _ | refine Below.alloc ?_ (by first | omega | (simp; done) | (simp; omega)) _))); (· (repeat (first | (refine there_new _ _ _ _ _ ?_ rfl; first | rfl | (simp; done)) | refine World.there_alloc ?_ _))); intro V d10 hzV R_10 kV tV hcV; have f0_10 : V.cell? ⟨w2.heap.size, 0, none⟩ = some (.int .u8 P) := (hcV w2.heap.size 0 (by omega)).trans (by simp [go_sem, f0_3, zf_3]); have f1_10 : V.cell? ⟨w2.heap.size, 1, none⟩ = some (.int .u32 S) := (hcV w2.heap.size 1 (by omega)).trans (by simp [go_sem, f1_3, zf_3]); have f2_10 : V.cell? ⟨w2.heap.size, 2, none⟩ = some (.int .u32 E) := (hcV w2.heap.size 2 (by omega)).trans (by simp [go_sem, f2_3, zf_3]); have f3_10 : V.cell? ⟨w2.heap.size, 3, none⟩ = some (.int .u16 sp) := (hcV w2.heap.size 3 (by omega)).trans (by simp [go_sem, f3_3, zf_3]); have f4_10 : V.cell? ⟨w2.heap.size, 4, none⟩ = some (.int .u16 dp) := (hcV w2.heap.size 4 (by omega)).trans (by simp [go_sem, f4_3, zf_3]); have f5_10 : V.cell? ⟨w2.heap.size, 5, none⟩ = some (.int .u8 q0) := (hcV w2.heap.size 5 (by omega)).trans (by simp [go_sem, f5_3, zf_3]); have zf_10 : w2.heap.size < V.heap.size := (by rw [hzV]; simp; omega); have zR_10 : w3.heap.size < V.heap.size := (by rw [hzV]; simp); clear hcV hzV kV tV) | (refine wpList_load_wide 29 _ rfl (by rfl) _ _ rfl (gF c1 5 ty c0 c1 c2 c3 c4 kv by') _ Tryd.underlying29 rfl (hi_gF c1 5 ty c0 c1 c2 c3 c4 kv by') ?_ ?_; · (repeat (first | with_reducible exact R_10 | refine World.rangeAt_alloc ?_ _))))
  have k10 : w.heap.size ≤ V.heap.size := d10.size
  have nfR : w2.heap.size < w3.heap.size := zf_3
  clear f0_3 f1_3 f2_3 f3_3 f4_3 f5_3 zf_3 d3
  refine (H5.out _ (HT.out.below (by (repeat' (first | with_reducible exact d10 | refine Below.setCell ?_ (by first | omega | (simp; done) | (simp; omega)) _ | refine Below.alloc ?_ (by first | omega | (simp; done) | (simp; omega)) _))))).mono ?_
  rintro e w11 ⟨rfl, hb⟩
  have b11 : Below V.heap.size V w11 := bthen (by (repeat' (first | exact Below.refl _ _ | refine Below.setCell ?_ (by first | omega | (simp; done) | (simp; omega)) _ | refine Below.alloc ?_ (by first | omega | (simp; done) | (simp; omega)) _))) hb
  have d11 : Below w.heap.size w w11 := bthen d10 b11
  have k11 : w.heap.size ≤ w11.heap.size := d11.size
  have R_11 : w11.rangeAt (w3.heap.size) 0 ((gF c1 5 ty c0 c1 c2 c3 c4 kv by')).toList := range_below b11 (by omega) R_10
  have zR_11 : w3.heap.size < w11.heap.size := Nat.lt_of_lt_of_le zR_10 b11.size
  have f0_11 : w11.cell? ⟨w2.heap.size, 0, none⟩ = some (.int .u8 P) := (b11.cell (p := ⟨w2.heap.size, 0, none⟩) (by show w2.heap.size < V.heap.size; omega)).trans f0_10
  have f1_11 : w11.cell? ⟨w2.heap.size, 1, none⟩ = some (.int .u32 S) := (b11.cell (p := ⟨w2.heap.size, 1, none⟩) (by show w2.heap.size < V.heap.size; omega)).trans f1_10
  have f2_11 : w11.cell? ⟨w2.heap.size, 2, none⟩ = some (.int .u32 E) := (b11.cell (p := ⟨w2.heap.size, 2, none⟩) (by show w2.heap.size < V.heap.size; omega)).trans f2_10
  have f3_11 : w11.cell? ⟨w2.heap.size, 3, none⟩ = some (.int .u16 sp) := (b11.cell (p := ⟨w2.heap.size, 3, none⟩) (by show w2.heap.size < V.heap.size; omega)).trans f3_10
  have f4_11 : w11.cell? ⟨w2.heap.size, 4, none⟩ = some (.int .u16 dp) := (b11.cell (p := ⟨w2.heap.size, 4, none⟩) (by show w2.heap.size < V.heap.size; omega)).trans f4_10
  have f5_11 : w11.cell? ⟨w2.heap.size, 5, none⟩ = some (.int .u8 q0) := (b11.cell (p := ⟨w2.heap.size, 5, none⟩) (by show w2.heap.size < V.heap.size; omega)).trans f5_10
  have zf_11 : w2.heap.size < w11.heap.size := Nat.lt_of_lt_of_le zf_10 b11.size
  clear hb b11 d10 k10 R_10 zR_10 f0_10 f1_10 f2_10 f3_10 f4_10 f5_10 zf_10
  go_wp2_with (refine wpList_load_wide 29 _ rfl (by rfl) _ _ rfl (gF c1 5 ty c0 c1 c2 c3 c4 kv by') _ Tryd.underlying29 rfl (hi_gF c1 5 ty c0 c1 c2 c3 c4 kv by') ?_ ?_; · (repeat (first | with_reducible exact R_11 | refine World.rangeAt_alloc ?_ _)))
  refine (HLk.out _ (HT.out.below (by (repeat' (first | with_reducible exact d11 | refine Below.setCell ?_ (by first | omega | (simp; done) | (simp; omega)) _ | refine Below.alloc ?_ (by first | omega | (simp; done) | (simp; omega)) _))))).mono ?_
  rintro e w12 ⟨rfl, hb⟩
  have b12 : Below w11.heap.size w11 w12 := bthen (by (repeat' (first | exact Below.refl _ _ | refine Below.setCell ?_ (by first | omega | (simp; done) | (simp; omega)) _ | refine Below.alloc ?_ (by first | omega | (simp; done) | (simp; omega)) _))) hb
  have d12 : Below w.heap.size w w12 := bthen d11 b12
  have k12 : w.heap.size ≤ w12.heap.size := d12.size
  have R_12 : w12.rangeAt (w3.heap.size) 0 ((gF c1 5 ty c0 c1 c2 c3 c4 kv by')).toList := range_below b12 (by omega) R_11
  have zR_12 : w3.heap.size < w12.heap.size := Nat.lt_of_lt_of_le zR_11 b12.size
  have f0_12 : w12.cell? ⟨w2.heap.size, 0, none⟩ = some (.int .u8 P) := (b12.cell (p := ⟨w2.heap.size, 0, none⟩) (by show w2.heap.size < w11.heap.size; omega)).trans f0_11
  have f1_12 : w12.cell? ⟨w2.heap.size, 1, none⟩ = some (.int .u32 S) := (b12.cell (p := ⟨w2.heap.size, 1, none⟩) (by show w2.heap.size < w11.heap.size; omega)).trans f1_11
  have f2_12 : w12.cell? ⟨w2.heap.size, 2, none⟩ = some (.int .u32 E) := (b12.cell (p := ⟨w2.heap.size, 2, none⟩) (by show w2.heap.size < w11.heap.size; omega)).trans f2_11
  have f3_12 : w12.cell? ⟨w2.heap.size, 3, none⟩ = some (.int .u16 sp) := (b12.cell (p := ⟨w2.heap.size, 3, none⟩) (by show w2.heap.size < w11.heap.size; omega)).trans f3_11
  have f4_12 : w12.cell? ⟨w2.heap.size, 4, none⟩ = some (.int .u16 dp) := (b12.cell (p := ⟨w2.heap.size, 4, none⟩) (by show w2.heap.size < w11.heap.size; omega)).trans f4_11
  have f5_12 : w12.cell? ⟨w2.heap.size, 5, none⟩ = some (.int .u8 q0) := (b12.cell (p := ⟨w2.heap.size, 5, none⟩) (by show w2.heap.size < w11.heap.size; omega)).trans f5_11
  have zf_12 : w2.heap.size < w12.heap.size := Nat.lt_of_lt_of_le zf_11 b12.size
  clear hb b12 d11 k11 R_11 zR_11 f0_11 f1_11 f2_11 f3_11 f4_11 f5_11 zf_11
  have g0 : w12.cell? ⟨w3.heap.size, 13, none⟩ = some (.int .u8 c0) := rcell' R_12 rfl
  have g1 : w12.cell? ⟨w3.heap.size, 14, none⟩ = some (.int .u32 c1) := rcell' R_12 rfl
  have g2 : w12.cell? ⟨w3.heap.size, 15, none⟩ = some (.int .u32 c2) := rcell' R_12 rfl
  have g3 : w12.cell? ⟨w3.heap.size, 16, none⟩ = some (.int .u16 c3) := rcell' R_12 rfl
  have g4 : w12.cell? ⟨w3.heap.size, 17, none⟩ = some (.int .u16 c4) := rcell' R_12 rfl
  have HN := fun W => key_neq c0 c1 c2 c3 c4 W
  have h1 := HQ1.out
  have h2 := HQ1'.out
  have h3 := HW.out
  have h4 := HW'.out
  go_wp2_with (first | (refine wpList_store_wide 29 (.tmp 19) (.tmp 68) rfl rfl (w12.heap.size + 1) 0 (gF c1 5 ty c0 c1 c2 c3 c4 kv by') rfl rfl w.heap.size w (hi_gF c1 5 ty c0 c1 c2 c3 c4 kv by') (ho_gF c1 5 ty c0 c1 c2 c3 c4 kv by') ?_ (by omega) ?_ ?_; (· (repeat' (first | with_reducible exact d12 | refine Below.setCell ?_ (by first | omega | (simp; done) | (simp; omega)) _ | refine Below.alloc ?_ (by first | omega | (simp; done) | (simp; omega)) _))); (· (repeat (first | (refine there_new _ _ _ _ _ ?_ rfl; first | rfl | (simp; done)) | refine World.there_alloc ?_ _))); intro V2 e2 hz2 R2 kV2 tV2 hcV2; have y0 : V2.cell? ⟨w2.heap.size, 0, none⟩ = some (.int .u8 P) := (hcV2 w2.heap.size 0 (by omega)).trans (by simp [go_sem, f0_12, zf_12]); have y1 : V2.cell? ⟨w2.heap.size, 1, none⟩ = some (.int .u32 S) := (hcV2 w2.heap.size 1 (by omega)).trans (by simp [go_sem, f1_12, zf_12]); have y2 : V2.cell? ⟨w2.heap.size, 2, none⟩ = some (.int .u32 E) := (hcV2 w2.heap.size 2 (by omega)).trans (by simp [go_sem, f2_12, zf_12]); have y3 : V2.cell? ⟨w2.heap.size, 3, none⟩ = some (.int .u16 sp) := (hcV2 w2.heap.size 3 (by omega)).trans (by simp [go_sem, f3_12, zf_12]); have y4 : V2.cell? ⟨w2.heap.size, 4, none⟩ = some (.int .u16 dp) := (hcV2 w2.heap.size 4 (by omega)).trans (by simp [go_sem, f4_12, zf_12]); have y5 : V2.cell? ⟨w2.heap.size, 5, none⟩ = some (.int .u8 q0) := (hcV2 w2.heap.size 5 (by omega)).trans (by simp [go_sem, f5_12, zf_12]); have zy : w2.heap.size < V2.heap.size := (by rw [hz2]; simp; omega); have zb : w12.heap.size + 1 < V2.heap.size := (by rw [hz2]; simp); have cj := rcell' (j := 16) R2 rfl; have fj := tfree (tV2 (w12.heap.size + 1) 0 19 (by (repeat (first | (refine there_new _ _ _ _ _ ?_ rfl; first | rfl | (simp; done)) | refine World.there_alloc ?_ _)))) 16 (by decide); have R3 : (V2.setCell ⟨(w12.heap.size + 1), 16, none⟩ (.int .u16 (IntKind.u16.wrap (c3 + 1)))).rangeAt (w12.heap.size + 1) 0 (gF c1 5 ty c0 c1 c2 (IntKind.u16.wrap (c3 + 1)) c4 kv by').toList := range_put R2 16 (.int .u16 (IntKind.u16.wrap (c3 + 1))) fj; have e3 := e2.setCell (p := ⟨(w12.heap.size + 1), 16, none⟩) (by show w.heap.size ≤ w12.heap.size + 1; omega) (.int .u16 (IntKind.u16.wrap (c3 + 1))); have ny : w2.heap.size ≠ w12.heap.size + 1 := (by omega); have ny' : w12.heap.size + 1 ≠ w2.heap.size := (by omega); clear hcV2 kV2 tV2 hz2) | (refine wpList_load_wide 29 _ rfl (by rfl) _ _ rfl (gF c1 5 ty c0 c1 c2 c3 c4 kv by') _ Tryd.underlying29 rfl (hi_gF c1 5 ty c0 c1 c2 c3 c4 kv by') ?_ ?_; · (repeat (first | with_reducible exact R_12 | refine World.rangeAt_alloc ?_ _))) | (refine wpList_load_wide 29 _ rfl (by rfl) _ _ rfl (gF c1 5 ty c0 c1 c2 (IntKind.u16.wrap (c3 + 1)) c4 kv by') _ Tryd.underlying29 rfl (hi_gF c1 5 ty c0 c1 c2 (IntKind.u16.wrap (c3 + 1)) c4 kv by') ?_ ?_; · (repeat (first | with_reducible exact R3 | refine World.rangeAt_alloc ?_ _))))
  refine (H8.out _ (HT.out.below (by (repeat' (first | with_reducible exact e3 | refine Below.setCell ?_ (by first | omega | (simp; done) | (simp; omega)) _ | refine Below.alloc ?_ (by first | omega | (simp; done) | (simp; omega)) _))))).mono ?_
  rintro e w13 ⟨rfl, hb⟩
  have b13 := bthen e3 hb
  clear hb
  go_wp2_with fail
  go_ret
  exact ⟨rfl, b13⟩

set_option maxRecDepth 100000 in
set_option maxHeartbeats 16000000 in
theorem belongs_5 (p s d sp dp side dir by' way : Int) (P S E q0 c0 c1 c2 c3 c4 ty kv fr q1 : Int) (w : World) (HT : Hid (Tabs w))
    (HR : Hid (∀ W, Calls Tryd.prog 13 #[.agg #[.int .u8 p, .int .u32 s, .int .u32 d, .int .u16 sp, .int .u16 dp], .int .u8 side] W fun e w' => e = .returned (.agg #[.int .u8 P, .int .u32 S, .int .u32 E, .int .u16 sp, .int .u16 dp, .int .u8 q0]) ∧ Below W.heap.size W w'))
    (HG : Hid (∀ W, Tabs W → Calls Tryd.prog 14 #[.agg #[.int .u8 P, .int .u32 S, .int .u32 E, .int .u16 sp, .int .u16 dp, .int .u8 q0], .int .u8 dir, .int .u32 by'] W fun e w' => e = .returned (.tuple #[.agg (gF c1 5 ty c0 c1 c2 c3 c4 kv by'), .int .u8 fr, .bool true]) ∧ Below W.heap.size W w'))
    (hP : Hid (0 ≤ P ∧ P ≤ 255)) (hq0 : Hid (0 ≤ q0)) (hfr : 0 ≤ fr) (hfr1 : fr ≤ 1) (hk2 : 0 ≤ c2) (hk2' : c2 ≤ 4294967295) (hk3 : 0 ≤ c3) (hk3' : c3 ≤ 65535) (hk4 : 0 ≤ c4) (hk4' : c4 ≤ 65535) (hdir : 0 ≤ dir) (hdir' : dir ≤ 255) (hway : 0 ≤ way) (hway' : way ≤ 255)
    (HF : Hid (Fa (gF c1 5 ty c0 c1 c2 c3 c4 kv by') c1 5 ty c0 c1 c2 c3 c4 kv)) (HGF : Hid (Fa (gF c1 5 ty c0 c1 c2 c3 (IntKind.u16.wrap (c4 - 1)) kv by') c1 5 ty c0 c1 c2 c3 (IntKind.u16.wrap (c4 - 1)) kv)) (Hyes : Hid (quo P S E sp dp q0 c1 5 ty c0 c1 c2 c3 c4 kv fr = (q1, true))) (Hcan : Hid (can c1 5 ty c0 c1 kv = true)) (Hno : Hid (quo P S E sp dp q0 c1 5 ty c0 c1 c2 c3 (IntKind.u16.wrap (c4 - 1)) kv fr = (0, false)))
    (HQ1 : Hid (dir % 2 = q1)) (HQ1' : Hid (dir.tmod 2 = q1)) (HW : Hid (way % 9 = 5)) (HW' : Hid (way.tmod 9 = 5)) :
    Calls Tryd.prog 4 #[.agg #[.int .u8 p, .int .u32 s, .int .u32 d, .int .u16 sp, .int .u16 dp], .int .u8 side, .int .u8 dir, .int .u32 by', .int .u8 way] w fun e w' => e = .returned (.bool true) ∧ Below w.heap.size w w' := by
  have H5 := Lib.hid (fun W (hW : Tabs W) => quotes_is (gF c1 5 ty c0 c1 c2 c3 c4 kv by') P S E sp dp q0 c1 5 ty c0 c1 c2 c3 c4 kv fr q1 true W HF.out hW hP.out hq0.out hfr Hyes.out)
  have HLk := Lib.hid (fun W (hW : Tabs W) => lookup_below (gF c1 5 ty c0 c1 c2 c3 c4 kv by') c1 5 ty c0 c1 c2 c3 c4 kv W HF.out hW)
  rw [Hcan.out] at HLk
  simp only [pk, if_true] at HLk
  have H8 := Lib.hid (fun W (hW : Tabs W) => quotes_is (gF c1 5 ty c0 c1 c2 c3 (IntKind.u16.wrap (c4 - 1)) kv by') P S E sp dp q0 c1 5 ty c0 c1 c2 c3 (IntKind.u16.wrap (c4 - 1)) kv fr 0 false W HGF.out hW hP.out hq0.out (by omega) Hno.out)
  clear HF HGF Hyes Hcan Hno hP hq0
  go_enter Tryd.func4, Tryd.ntmps4
  go_wp2_with fail
  refine (awake_any _ (HT.out.below (by (repeat' (first | exact Below.refl _ _ | refine Below.setCell ?_ (by first | omega | (simp; done) | (simp; omega)) _ | refine Below.alloc ?_ (by first | omega | (simp; done) | (simp; omega)) _))))).mono ?_
  rintro e w1 ⟨rfl, hb⟩
  have b1 : Below w.heap.size w w1 := bthen (by (repeat' (first | exact Below.refl _ _ | refine Below.setCell ?_ (by first | omega | (simp; done) | (simp; omega)) _ | refine Below.alloc ?_ (by first | omega | (simp; done) | (simp; omega)) _))) hb
  have d1 : Below w.heap.size w w1 := b1
  have k1 : w.heap.size ≤ w1.heap.size := d1.size
  have x0_1 : w1.cell? ⟨w.heap.size, 0, none⟩ = some (.int .u8 p) := (hb.cell (p := ⟨w.heap.size, 0, none⟩) (by first | (simp; done) | (simp; omega))).trans (by simp [go_sem])
  have x1_1 : w1.cell? ⟨w.heap.size, 1, none⟩ = some (.int .u32 s) := (hb.cell (p := ⟨w.heap.size, 1, none⟩) (by first | (simp; done) | (simp; omega))).trans (by simp [go_sem])
  have x2_1 : w1.cell? ⟨w.heap.size, 2, none⟩ = some (.int .u32 d) := (hb.cell (p := ⟨w.heap.size, 2, none⟩) (by first | (simp; done) | (simp; omega))).trans (by simp [go_sem])
  have x3_1 : w1.cell? ⟨w.heap.size, 3, none⟩ = some (.int .u16 sp) := (hb.cell (p := ⟨w.heap.size, 3, none⟩) (by first | (simp; done) | (simp; omega))).trans (by simp [go_sem])
  have x4_1 : w1.cell? ⟨w.heap.size, 4, none⟩ = some (.int .u16 dp) := (hb.cell (p := ⟨w.heap.size, 4, none⟩) (by first | (simp; done) | (simp; omega))).trans (by simp [go_sem])
  have zx_1 : w.heap.size < w1.heap.size := by have := hb.size; simp at this; omega
  clear hb
  go_wp2_with fail
  refine (HR.out _).mono ?_
  rintro e w2 ⟨rfl, hb⟩
  have b2 : Below w1.heap.size w1 w2 := bthen (by (repeat' (first | exact Below.refl _ _ | refine Below.setCell ?_ (by first | omega | (simp; done) | (simp; omega)) _ | refine Below.alloc ?_ (by first | omega | (simp; done) | (simp; omega)) _))) hb
  have d2 : Below w.heap.size w w2 := bthen d1 b2
  have k2 : w.heap.size ≤ w2.heap.size := d2.size
  have x0_2 : w2.cell? ⟨w.heap.size, 0, none⟩ = some (.int .u8 p) := (b2.cell (p := ⟨w.heap.size, 0, none⟩) (by show w.heap.size < w1.heap.size; omega)).trans x0_1
  have x1_2 : w2.cell? ⟨w.heap.size, 1, none⟩ = some (.int .u32 s) := (b2.cell (p := ⟨w.heap.size, 1, none⟩) (by show w.heap.size < w1.heap.size; omega)).trans x1_1
  have x2_2 : w2.cell? ⟨w.heap.size, 2, none⟩ = some (.int .u32 d) := (b2.cell (p := ⟨w.heap.size, 2, none⟩) (by show w.heap.size < w1.heap.size; omega)).trans x2_1
  have x3_2 : w2.cell? ⟨w.heap.size, 3, none⟩ = some (.int .u16 sp) := (b2.cell (p := ⟨w.heap.size, 3, none⟩) (by show w.heap.size < w1.heap.size; omega)).trans x3_1
  have x4_2 : w2.cell? ⟨w.heap.size, 4, none⟩ = some (.int .u16 dp) := (b2.cell (p := ⟨w.heap.size, 4, none⟩) (by show w.heap.size < w1.heap.size; omega)).trans x4_1
  have zx_2 : w.heap.size < w2.heap.size := Nat.lt_of_lt_of_le zx_1 b2.size
  clear hb b2 d1 k1 x0_1 x1_1 x2_1 x3_1 x4_1 zx_1
  clear x0_2 x1_2 x2_2 x3_2 x4_2 zx_2
  go_wp2_with fail
  refine (HG.out _ (HT.out.below (by (repeat' (first | with_reducible exact d2 | refine Below.setCell ?_ (by first | omega | (simp; done) | (simp; omega)) _ | refine Below.alloc ?_ (by first | omega | (simp; done) | (simp; omega)) _))))).mono ?_
  rintro e w3 ⟨rfl, hb⟩
  have b3 : Below w2.heap.size w2 w3 := bthen (by (repeat' (first | exact Below.refl _ _ | refine Below.setCell ?_ (by first | omega | (simp; done) | (simp; omega)) _ | refine Below.alloc ?_ (by first | omega | (simp; done) | (simp; omega)) _))) hb
  have d3 : Below w.heap.size w w3 := bthen d2 b3
  have k3 : w.heap.size ≤ w3.heap.size := d3.size
  have f0_3 : w3.cell? ⟨w2.heap.size, 0, none⟩ = some (.int .u8 P) := (hb.cell (p := ⟨w2.heap.size, 0, none⟩) (by first | (simp; done) | (simp; omega))).trans (by simp [go_sem])
  have f1_3 : w3.cell? ⟨w2.heap.size, 1, none⟩ = some (.int .u32 S) := (hb.cell (p := ⟨w2.heap.size, 1, none⟩) (by first | (simp; done) | (simp; omega))).trans (by simp [go_sem])
  have f2_3 : w3.cell? ⟨w2.heap.size, 2, none⟩ = some (.int .u32 E) := (hb.cell (p := ⟨w2.heap.size, 2, none⟩) (by first | (simp; done) | (simp; omega))).trans (by simp [go_sem])
  have f3_3 : w3.cell? ⟨w2.heap.size, 3, none⟩ = some (.int .u16 sp) := (hb.cell (p := ⟨w2.heap.size, 3, none⟩) (by first | (simp; done) | (simp; omega))).trans (by simp [go_sem])
  have f4_3 : w3.cell? ⟨w2.heap.size, 4, none⟩ = some (.int .u16 dp) := (hb.cell (p := ⟨w2.heap.size, 4, none⟩) (by first | (simp; done) | (simp; omega))).trans (by simp [go_sem])
  have f5_3 : w3.cell? ⟨w2.heap.size, 5, none⟩ = some (.int .u8 q0) := (hb.cell (p := ⟨w2.heap.size, 5, none⟩) (by first | (simp; done) | (simp; omega))).trans (by simp [go_sem])
  have zf_3 : w2.heap.size < w3.heap.size := by have := hb.size; simp at this; omega
  clear hb b3 d2 k2
  go_wp2_with (first | (refine wpList_store_wide 29 (.tmp 12) (.tmp 31) rfl rfl w3.heap.size 0 (gF c1 5 ty c0 c1 c2 c3 c4 kv by') rfl rfl w.heap.size w (hi_gF c1 5 ty c0 c1 c2 c3 c4 kv by') (ho_gF c1 5 ty c0 c1 c2 c3 c4 kv by') ?_ (by omega) ?_ ?_; (· (repeat' (first | with_reducible exact d3 | refine Below.setCell ?_ (by first | omega | (simp; done) | (simp; omega)) _ | refine Below.alloc ?_ (by first | omega | (simp; done) | (simp; omega)) _))); (· (repeat (first | (refine there_new _ _ _ _ _ ?_ rfl; first | rfl | (simp; done)) | refine World.there_alloc ?_ _))); intro V d10 hzV R_10 kV tV hcV; have f0_10 : V.cell? ⟨w2.heap.size, 0, none⟩ = some (.int .u8 P) := (hcV w2.heap.size 0 (by omega)).trans (by simp [go_sem, f0_3, zf_3]); have f1_10 : V.cell? ⟨w2.heap.size, 1, none⟩ = some (.int .u32 S) := (hcV w2.heap.size 1 (by omega)).trans (by simp [go_sem, f1_3, zf_3]); have f2_10 : V.cell? ⟨w2.heap.size, 2, none⟩ = some (.int .u32 E) := (hcV w2.heap.size 2 (by omega)).trans (by simp [go_sem, f2_3, zf_3]); have f3_10 : V.cell? ⟨w2.heap.size, 3, none⟩ = some (.int .u16 sp) := (hcV w2.heap.size 3 (by omega)).trans (by simp [go_sem, f3_3, zf_3]); have f4_10 : V.cell? ⟨w2.heap.size, 4, none⟩ = some (.int .u16 dp) := (hcV w2.heap.size 4 (by omega)).trans (by simp [go_sem, f4_3, zf_3]); have f5_10 : V.cell? ⟨w2.heap.size, 5, none⟩ = some (.int .u8 q0) := (hcV w2.heap.size 5 (by omega)).trans (by simp [go_sem, f5_3, zf_3]); have zf_10 : w2.heap.size < V.heap.size := (by rw [hzV]; simp; omega); have zR_10 : w3.heap.size < V.heap.size := (by rw [hzV]; simp); clear hcV hzV kV tV) | (refine wpList_load_wide 29 _ rfl (by rfl) _ _ rfl (gF c1 5 ty c0 c1 c2 c3 c4 kv by') _ Tryd.underlying29 rfl (hi_gF c1 5 ty c0 c1 c2 c3 c4 kv by') ?_ ?_; · (repeat (first | with_reducible exact R_10 | refine World.rangeAt_alloc ?_ _))))
  have k10 : w.heap.size ≤ V.heap.size := d10.size
  have nfR : w2.heap.size < w3.heap.size := zf_3
  clear f0_3 f1_3 f2_3 f3_3 f4_3 f5_3 zf_3 d3
  refine (H5.out _ (HT.out.below (by (repeat' (first | with_reducible exact d10 | refine Below.setCell ?_ (by first | omega | (simp; done) | (simp; omega)) _ | refine Below.alloc ?_ (by first | omega | (simp; done) | (simp; omega)) _))))).mono ?_
  rintro e w11 ⟨rfl, hb⟩
  have b11 : Below V.heap.size V w11 := bthen (by (repeat' (first | exact Below.refl _ _ | refine Below.setCell ?_ (by first | omega | (simp; done) | (simp; omega)) _ | refine Below.alloc ?_ (by first | omega | (simp; done) | (simp; omega)) _))) hb
  have d11 : Below w.heap.size w w11 := bthen d10 b11
  have k11 : w.heap.size ≤ w11.heap.size := d11.size
  have R_11 : w11.rangeAt (w3.heap.size) 0 ((gF c1 5 ty c0 c1 c2 c3 c4 kv by')).toList := range_below b11 (by omega) R_10
  have zR_11 : w3.heap.size < w11.heap.size := Nat.lt_of_lt_of_le zR_10 b11.size
  have f0_11 : w11.cell? ⟨w2.heap.size, 0, none⟩ = some (.int .u8 P) := (b11.cell (p := ⟨w2.heap.size, 0, none⟩) (by show w2.heap.size < V.heap.size; omega)).trans f0_10
  have f1_11 : w11.cell? ⟨w2.heap.size, 1, none⟩ = some (.int .u32 S) := (b11.cell (p := ⟨w2.heap.size, 1, none⟩) (by show w2.heap.size < V.heap.size; omega)).trans f1_10
  have f2_11 : w11.cell? ⟨w2.heap.size, 2, none⟩ = some (.int .u32 E) := (b11.cell (p := ⟨w2.heap.size, 2, none⟩) (by show w2.heap.size < V.heap.size; omega)).trans f2_10
  have f3_11 : w11.cell? ⟨w2.heap.size, 3, none⟩ = some (.int .u16 sp) := (b11.cell (p := ⟨w2.heap.size, 3, none⟩) (by show w2.heap.size < V.heap.size; omega)).trans f3_10
  have f4_11 : w11.cell? ⟨w2.heap.size, 4, none⟩ = some (.int .u16 dp) := (b11.cell (p := ⟨w2.heap.size, 4, none⟩) (by show w2.heap.size < V.heap.size; omega)).trans f4_10
  have f5_11 : w11.cell? ⟨w2.heap.size, 5, none⟩ = some (.int .u8 q0) := (b11.cell (p := ⟨w2.heap.size, 5, none⟩) (by show w2.heap.size < V.heap.size; omega)).trans f5_10
  have zf_11 : w2.heap.size < w11.heap.size := Nat.lt_of_lt_of_le zf_10 b11.size
  clear hb b11 d10 k10 R_10 zR_10 f0_10 f1_10 f2_10 f3_10 f4_10 f5_10 zf_10
  go_wp2_with (refine wpList_load_wide 29 _ rfl (by rfl) _ _ rfl (gF c1 5 ty c0 c1 c2 c3 c4 kv by') _ Tryd.underlying29 rfl (hi_gF c1 5 ty c0 c1 c2 c3 c4 kv by') ?_ ?_; · (repeat (first | with_reducible exact R_11 | refine World.rangeAt_alloc ?_ _)))
  refine (HLk.out _ (HT.out.below (by (repeat' (first | with_reducible exact d11 | refine Below.setCell ?_ (by first | omega | (simp; done) | (simp; omega)) _ | refine Below.alloc ?_ (by first | omega | (simp; done) | (simp; omega)) _))))).mono ?_
  rintro e w12 ⟨rfl, hb⟩
  have b12 : Below w11.heap.size w11 w12 := bthen (by (repeat' (first | exact Below.refl _ _ | refine Below.setCell ?_ (by first | omega | (simp; done) | (simp; omega)) _ | refine Below.alloc ?_ (by first | omega | (simp; done) | (simp; omega)) _))) hb
  have d12 : Below w.heap.size w w12 := bthen d11 b12
  have k12 : w.heap.size ≤ w12.heap.size := d12.size
  have R_12 : w12.rangeAt (w3.heap.size) 0 ((gF c1 5 ty c0 c1 c2 c3 c4 kv by')).toList := range_below b12 (by omega) R_11
  have zR_12 : w3.heap.size < w12.heap.size := Nat.lt_of_lt_of_le zR_11 b12.size
  have f0_12 : w12.cell? ⟨w2.heap.size, 0, none⟩ = some (.int .u8 P) := (b12.cell (p := ⟨w2.heap.size, 0, none⟩) (by show w2.heap.size < w11.heap.size; omega)).trans f0_11
  have f1_12 : w12.cell? ⟨w2.heap.size, 1, none⟩ = some (.int .u32 S) := (b12.cell (p := ⟨w2.heap.size, 1, none⟩) (by show w2.heap.size < w11.heap.size; omega)).trans f1_11
  have f2_12 : w12.cell? ⟨w2.heap.size, 2, none⟩ = some (.int .u32 E) := (b12.cell (p := ⟨w2.heap.size, 2, none⟩) (by show w2.heap.size < w11.heap.size; omega)).trans f2_11
  have f3_12 : w12.cell? ⟨w2.heap.size, 3, none⟩ = some (.int .u16 sp) := (b12.cell (p := ⟨w2.heap.size, 3, none⟩) (by show w2.heap.size < w11.heap.size; omega)).trans f3_11
  have f4_12 : w12.cell? ⟨w2.heap.size, 4, none⟩ = some (.int .u16 dp) := (b12.cell (p := ⟨w2.heap.size, 4, none⟩) (by show w2.heap.size < w11.heap.size; omega)).trans f4_11
  have f5_12 : w12.cell? ⟨w2.heap.size, 5, none⟩ = some (.int .u8 q0) := (b12.cell (p := ⟨w2.heap.size, 5, none⟩) (by show w2.heap.size < w11.heap.size; omega)).trans f5_11
  have zf_12 : w2.heap.size < w12.heap.size := Nat.lt_of_lt_of_le zf_11 b12.size
  clear hb b12 d11 k11 R_11 zR_11 f0_11 f1_11 f2_11 f3_11 f4_11 f5_11 zf_11
  have g0 : w12.cell? ⟨w3.heap.size, 13, none⟩ = some (.int .u8 c0) := rcell' R_12 rfl
  have g1 : w12.cell? ⟨w3.heap.size, 14, none⟩ = some (.int .u32 c1) := rcell' R_12 rfl
  have g2 : w12.cell? ⟨w3.heap.size, 15, none⟩ = some (.int .u32 c2) := rcell' R_12 rfl
  have g3 : w12.cell? ⟨w3.heap.size, 16, none⟩ = some (.int .u16 c3) := rcell' R_12 rfl
  have g4 : w12.cell? ⟨w3.heap.size, 17, none⟩ = some (.int .u16 c4) := rcell' R_12 rfl
  have HN := fun W => key_neq c0 c1 c2 c3 c4 W
  have h1 := HQ1.out
  have h2 := HQ1'.out
  have h3 := HW.out
  have h4 := HW'.out
  go_wp2_with (first | (refine wpList_store_wide 29 (.tmp 19) (.tmp 68) rfl rfl (w12.heap.size + 1) 0 (gF c1 5 ty c0 c1 c2 c3 c4 kv by') rfl rfl w.heap.size w (hi_gF c1 5 ty c0 c1 c2 c3 c4 kv by') (ho_gF c1 5 ty c0 c1 c2 c3 c4 kv by') ?_ (by omega) ?_ ?_; (· (repeat' (first | with_reducible exact d12 | refine Below.setCell ?_ (by first | omega | (simp; done) | (simp; omega)) _ | refine Below.alloc ?_ (by first | omega | (simp; done) | (simp; omega)) _))); (· (repeat (first | (refine there_new _ _ _ _ _ ?_ rfl; first | rfl | (simp; done)) | refine World.there_alloc ?_ _))); intro V2 e2 hz2 R2 kV2 tV2 hcV2; have y0 : V2.cell? ⟨w2.heap.size, 0, none⟩ = some (.int .u8 P) := (hcV2 w2.heap.size 0 (by omega)).trans (by simp [go_sem, f0_12, zf_12]); have y1 : V2.cell? ⟨w2.heap.size, 1, none⟩ = some (.int .u32 S) := (hcV2 w2.heap.size 1 (by omega)).trans (by simp [go_sem, f1_12, zf_12]); have y2 : V2.cell? ⟨w2.heap.size, 2, none⟩ = some (.int .u32 E) := (hcV2 w2.heap.size 2 (by omega)).trans (by simp [go_sem, f2_12, zf_12]); have y3 : V2.cell? ⟨w2.heap.size, 3, none⟩ = some (.int .u16 sp) := (hcV2 w2.heap.size 3 (by omega)).trans (by simp [go_sem, f3_12, zf_12]); have y4 : V2.cell? ⟨w2.heap.size, 4, none⟩ = some (.int .u16 dp) := (hcV2 w2.heap.size 4 (by omega)).trans (by simp [go_sem, f4_12, zf_12]); have y5 : V2.cell? ⟨w2.heap.size, 5, none⟩ = some (.int .u8 q0) := (hcV2 w2.heap.size 5 (by omega)).trans (by simp [go_sem, f5_12, zf_12]); have zy : w2.heap.size < V2.heap.size := (by rw [hz2]; simp; omega); have zb : w12.heap.size + 1 < V2.heap.size := (by rw [hz2]; simp); have cj := rcell' (j := 17) R2 rfl; have fj := tfree (tV2 (w12.heap.size + 1) 0 19 (by (repeat (first | (refine there_new _ _ _ _ _ ?_ rfl; first | rfl | (simp; done)) | refine World.there_alloc ?_ _)))) 17 (by decide); have R3 : (V2.setCell ⟨(w12.heap.size + 1), 17, none⟩ (.int .u16 (IntKind.u16.wrap (c4 - 1)))).rangeAt (w12.heap.size + 1) 0 (gF c1 5 ty c0 c1 c2 c3 (IntKind.u16.wrap (c4 - 1)) kv by').toList := range_put R2 17 (.int .u16 (IntKind.u16.wrap (c4 - 1))) fj; have e3 := e2.setCell (p := ⟨(w12.heap.size + 1), 17, none⟩) (by show w.heap.size ≤ w12.heap.size + 1; omega) (.int .u16 (IntKind.u16.wrap (c4 - 1))); have ny : w2.heap.size ≠ w12.heap.size + 1 := (by omega); have ny' : w12.heap.size + 1 ≠ w2.heap.size := (by omega); clear hcV2 kV2 tV2 hz2) | (refine wpList_load_wide 29 _ rfl (by rfl) _ _ rfl (gF c1 5 ty c0 c1 c2 c3 c4 kv by') _ Tryd.underlying29 rfl (hi_gF c1 5 ty c0 c1 c2 c3 c4 kv by') ?_ ?_; · (repeat (first | with_reducible exact R_12 | refine World.rangeAt_alloc ?_ _))) | (refine wpList_load_wide 29 _ rfl (by rfl) _ _ rfl (gF c1 5 ty c0 c1 c2 c3 (IntKind.u16.wrap (c4 - 1)) kv by') _ Tryd.underlying29 rfl (hi_gF c1 5 ty c0 c1 c2 c3 (IntKind.u16.wrap (c4 - 1)) kv by') ?_ ?_; · (repeat (first | with_reducible exact R3 | refine World.rangeAt_alloc ?_ _))))
  refine (H8.out _ (HT.out.below (by (repeat' (first | with_reducible exact e3 | refine Below.setCell ?_ (by first | omega | (simp; done) | (simp; omega)) _ | refine Below.alloc ?_ (by first | omega | (simp; done) | (simp; omega)) _))))).mono ?_
  rintro e w13 ⟨rfl, hb⟩
  have b13 := bthen e3 hb
  clear hb
  go_wp2_with fail
  go_ret
  exact ⟨rfl, b13⟩

set_option maxRecDepth 100000 in
set_option maxHeartbeats 16000000 in
theorem belongs_6 (p s d sp dp side dir by' way : Int) (P S E q0 c0 c1 c2 c3 c4 ty kv fr q1 : Int) (w : World) (HT : Hid (Tabs w))
    (HR : Hid (∀ W, Calls Tryd.prog 13 #[.agg #[.int .u8 p, .int .u32 s, .int .u32 d, .int .u16 sp, .int .u16 dp], .int .u8 side] W fun e w' => e = .returned (.agg #[.int .u8 P, .int .u32 S, .int .u32 E, .int .u16 sp, .int .u16 dp, .int .u8 q0]) ∧ Below W.heap.size W w'))
    (HG : Hid (∀ W, Tabs W → Calls Tryd.prog 14 #[.agg #[.int .u8 P, .int .u32 S, .int .u32 E, .int .u16 sp, .int .u16 dp, .int .u8 q0], .int .u8 dir, .int .u32 by'] W fun e w' => e = .returned (.tuple #[.agg (gF c1 5 ty c0 c1 c2 c3 c4 kv by'), .int .u8 fr, .bool true]) ∧ Below W.heap.size W w'))
    (hP : Hid (0 ≤ P ∧ P ≤ 255)) (hq0 : Hid (0 ≤ q0)) (hfr : 0 ≤ fr) (hfr1 : fr ≤ 1) (hk2 : 0 ≤ c2) (hk2' : c2 ≤ 4294967295) (hk3 : 0 ≤ c3) (hk3' : c3 ≤ 65535) (hk4 : 0 ≤ c4) (hk4' : c4 ≤ 65535) (hdir : 0 ≤ dir) (hdir' : dir ≤ 255) (hway : 0 ≤ way) (hway' : way ≤ 255)
    (HF : Hid (Fa (gF c1 5 ty c0 c1 c2 c3 c4 kv by') c1 5 ty c0 c1 c2 c3 c4 kv)) (HGF : Hid (Fa (gF c1 5 ty c0 c1 ((c2 + 1) % 4294967296) c3 c4 kv by') c1 5 ty c0 c1 ((c2 + 1) % 4294967296) c3 c4 kv)) (Hyes : Hid (quo P S E sp dp q0 c1 5 ty c0 c1 c2 c3 c4 kv fr = (q1, true))) (Hcan : Hid (can c1 5 ty c0 c1 kv = true)) (Hno : Hid (quo P S E sp dp q0 c1 5 ty c0 c1 ((c2 + 1) % 4294967296) c3 c4 kv fr = (0, false)))
    (HQ1 : Hid (dir % 2 = q1)) (HQ1' : Hid (dir.tmod 2 = q1)) (HW : Hid (way % 9 = 6)) (HW' : Hid (way.tmod 9 = 6)) :
    Calls Tryd.prog 4 #[.agg #[.int .u8 p, .int .u32 s, .int .u32 d, .int .u16 sp, .int .u16 dp], .int .u8 side, .int .u8 dir, .int .u32 by', .int .u8 way] w fun e w' => e = .returned (.bool true) ∧ Below w.heap.size w w' := by
  have H5 := Lib.hid (fun W (hW : Tabs W) => quotes_is (gF c1 5 ty c0 c1 c2 c3 c4 kv by') P S E sp dp q0 c1 5 ty c0 c1 c2 c3 c4 kv fr q1 true W HF.out hW hP.out hq0.out hfr Hyes.out)
  have HLk := Lib.hid (fun W (hW : Tabs W) => lookup_below (gF c1 5 ty c0 c1 c2 c3 c4 kv by') c1 5 ty c0 c1 c2 c3 c4 kv W HF.out hW)
  rw [Hcan.out] at HLk
  simp only [pk, if_true] at HLk
  have H8 := Lib.hid (fun W (hW : Tabs W) => quotes_is (gF c1 5 ty c0 c1 ((c2 + 1) % 4294967296) c3 c4 kv by') P S E sp dp q0 c1 5 ty c0 c1 ((c2 + 1) % 4294967296) c3 c4 kv fr 0 false W HGF.out hW hP.out hq0.out (by omega) Hno.out)
  clear HF HGF Hyes Hcan Hno hP hq0
  go_enter Tryd.func4, Tryd.ntmps4
  go_wp2_with fail
  refine (awake_any _ (HT.out.below (by (repeat' (first | exact Below.refl _ _ | refine Below.setCell ?_ (by first | omega | (simp; done) | (simp; omega)) _ | refine Below.alloc ?_ (by first | omega | (simp; done) | (simp; omega)) _))))).mono ?_
  rintro e w1 ⟨rfl, hb⟩
  have b1 : Below w.heap.size w w1 := bthen (by (repeat' (first | exact Below.refl _ _ | refine Below.setCell ?_ (by first | omega | (simp; done) | (simp; omega)) _ | refine Below.alloc ?_ (by first | omega | (simp; done) | (simp; omega)) _))) hb
  have d1 : Below w.heap.size w w1 := b1
  have k1 : w.heap.size ≤ w1.heap.size := d1.size
  have x0_1 : w1.cell? ⟨w.heap.size, 0, none⟩ = some (.int .u8 p) := (hb.cell (p := ⟨w.heap.size, 0, none⟩) (by first | (simp; done) | (simp; omega))).trans (by simp [go_sem])
  have x1_1 : w1.cell? ⟨w.heap.size, 1, none⟩ = some (.int .u32 s) := (hb.cell (p := ⟨w.heap.size, 1, none⟩) (by first | (simp; done) | (simp; omega))).trans (by simp [go_sem])
  have x2_1 : w1.cell? ⟨w.heap.size, 2, none⟩ = some (.int .u32 d) := (hb.cell (p := ⟨w.heap.size, 2, none⟩) (by first | (simp; done) | (simp; omega))).trans (by simp [go_sem])
  have x3_1 : w1.cell? ⟨w.heap.size, 3, none⟩ = some (.int .u16 sp) := (hb.cell (p := ⟨w.heap.size, 3, none⟩) (by first | (simp; done) | (simp; omega))).trans (by simp [go_sem])
  have x4_1 : w1.cell? ⟨w.heap.size, 4, none⟩ = some (.int .u16 dp) := (hb.cell (p := ⟨w.heap.size, 4, none⟩) (by first | (simp; done) | (simp; omega))).trans (by simp [go_sem])
  have zx_1 : w.heap.size < w1.heap.size := by have := hb.size; simp at this; omega
  clear hb
  go_wp2_with fail
  refine (HR.out _).mono ?_
  rintro e w2 ⟨rfl, hb⟩
  have b2 : Below w1.heap.size w1 w2 := bthen (by (repeat' (first | exact Below.refl _ _ | refine Below.setCell ?_ (by first | omega | (simp; done) | (simp; omega)) _ | refine Below.alloc ?_ (by first | omega | (simp; done) | (simp; omega)) _))) hb
  have d2 : Below w.heap.size w w2 := bthen d1 b2
  have k2 : w.heap.size ≤ w2.heap.size := d2.size
  have x0_2 : w2.cell? ⟨w.heap.size, 0, none⟩ = some (.int .u8 p) := (b2.cell (p := ⟨w.heap.size, 0, none⟩) (by show w.heap.size < w1.heap.size; omega)).trans x0_1
  have x1_2 : w2.cell? ⟨w.heap.size, 1, none⟩ = some (.int .u32 s) := (b2.cell (p := ⟨w.heap.size, 1, none⟩) (by show w.heap.size < w1.heap.size; omega)).trans x1_1
  have x2_2 : w2.cell? ⟨w.heap.size, 2, none⟩ = some (.int .u32 d) := (b2.cell (p := ⟨w.heap.size, 2, none⟩) (by show w.heap.size < w1.heap.size; omega)).trans x2_1
  have x3_2 : w2.cell? ⟨w.heap.size, 3, none⟩ = some (.int .u16 sp) := (b2.cell (p := ⟨w.heap.size, 3, none⟩) (by show w.heap.size < w1.heap.size; omega)).trans x3_1
  have x4_2 : w2.cell? ⟨w.heap.size, 4, none⟩ = some (.int .u16 dp) := (b2.cell (p := ⟨w.heap.size, 4, none⟩) (by show w.heap.size < w1.heap.size; omega)).trans x4_1
  have zx_2 : w.heap.size < w2.heap.size := Nat.lt_of_lt_of_le zx_1 b2.size
  clear hb b2 d1 k1 x0_1 x1_1 x2_1 x3_1 x4_1 zx_1
  clear x0_2 x1_2 x2_2 x3_2 x4_2 zx_2
  go_wp2_with fail
  refine (HG.out _ (HT.out.below (by (repeat' (first | with_reducible exact d2 | refine Below.setCell ?_ (by first | omega | (simp; done) | (simp; omega)) _ | refine Below.alloc ?_ (by first | omega | (simp; done) | (simp; omega)) _))))).mono ?_
  rintro e w3 ⟨rfl, hb⟩
  have b3 : Below w2.heap.size w2 w3 := bthen (by (repeat' (first | exact Below.refl _ _ | refine Below.setCell ?_ (by first | omega | (simp; done) | (simp; omega)) _ | refine Below.alloc ?_ (by first | omega | (simp; done) | (simp; omega)) _))) hb
  have d3 : Below w.heap.size w w3 := bthen d2 b3
  have k3 : w.heap.size ≤ w3.heap.size := d3.size
  have f0_3 : w3.cell? ⟨w2.heap.size, 0, none⟩ = some (.int .u8 P) := (hb.cell (p := ⟨w2.heap.size, 0, none⟩) (by first | (simp; done) | (simp; omega))).trans (by simp [go_sem])
  have f1_3 : w3.cell? ⟨w2.heap.size, 1, none⟩ = some (.int .u32 S) := (hb.cell (p := ⟨w2.heap.size, 1, none⟩) (by first | (simp; done) | (simp; omega))).trans (by simp [go_sem])
  have f2_3 : w3.cell? ⟨w2.heap.size, 2, none⟩ = some (.int .u32 E) := (hb.cell (p := ⟨w2.heap.size, 2, none⟩) (by first | (simp; done) | (simp; omega))).trans (by simp [go_sem])
  have f3_3 : w3.cell? ⟨w2.heap.size, 3, none⟩ = some (.int .u16 sp) := (hb.cell (p := ⟨w2.heap.size, 3, none⟩) (by first | (simp; done) | (simp; omega))).trans (by simp [go_sem])
  have f4_3 : w3.cell? ⟨w2.heap.size, 4, none⟩ = some (.int .u16 dp) := (hb.cell (p := ⟨w2.heap.size, 4, none⟩) (by first | (simp; done) | (simp; omega))).trans (by simp [go_sem])
  have f5_3 : w3.cell? ⟨w2.heap.size, 5, none⟩ = some (.int .u8 q0) := (hb.cell (p := ⟨w2.heap.size, 5, none⟩) (by first | (simp; done) | (simp; omega))).trans (by simp [go_sem])
  have zf_3 : w2.heap.size < w3.heap.size := by have := hb.size; simp at this; omega
  clear hb b3 d2 k2
  go_wp2_with (first | (refine wpList_store_wide 29 (.tmp 12) (.tmp 31) rfl rfl w3.heap.size 0 (gF c1 5 ty c0 c1 c2 c3 c4 kv by') rfl rfl w.heap.size w (hi_gF c1 5 ty c0 c1 c2 c3 c4 kv by') (ho_gF c1 5 ty c0 c1 c2 c3 c4 kv by') ?_ (by omega) ?_ ?_; (· (repeat' (first | with_reducible exact d3 | refine Below.setCell ?_ (by first | omega | (simp; done) | (simp; omega)) _ | refine Below.alloc ?_ (by first | omega | (simp; done) | (simp; omega)) _))); (· (repeat (first | (refine there_new _ _ _ _ _ ?_ rfl; first | rfl | (simp; done)) | refine World.there_alloc ?_ _))); intro V d10 hzV R_10 kV tV hcV; have f0_10 : V.cell? ⟨w2.heap.size, 0, none⟩ = some (.int .u8 P) := (hcV w2.heap.size 0 (by omega)).trans (by simp [go_sem, f0_3, zf_3]); have f1_10 : V.cell? ⟨w2.heap.size, 1, none⟩ = some (.int .u32 S) := (hcV w2.heap.size 1 (by omega)).trans (by simp [go_sem, f1_3, zf_3]); have f2_10 : V.cell? ⟨w2.heap.size, 2, none⟩ = some (.int .u32 E) := (hcV w2.heap.size 2 (by omega)).trans (by simp [go_sem, f2_3, zf_3]); have f3_10 : V.cell? ⟨w2.heap.size, 3, none⟩ = some (.int .u16 sp) := (hcV w2.heap.size 3 (by omega)).trans (by simp [go_sem, f3_3, zf_3]); have f4_10 : V.cell? ⟨w2.heap.size, 4, none⟩ = some (.int .u16 dp) := (hcV w2.heap.size 4 (by omega)).trans (by simp [go_sem, f4_3, zf_3]); have f5_10 : V.cell? ⟨w2.heap.size, 5, none⟩ = some (.int .u8 q0) := (hcV w2.heap.size 5 (by omega)).trans (by simp [go_sem, f5_3, zf_3]); have zf_10 : w2.heap.size < V.heap.size := (by rw [hzV]; simp; omega); have zR_10 : w3.heap.size < V.heap.size := (by rw [hzV]; simp); clear hcV hzV kV tV) | (refine wpList_load_wide 29 _ rfl (by rfl) _ _ rfl (gF c1 5 ty c0 c1 c2 c3 c4 kv by') _ Tryd.underlying29 rfl (hi_gF c1 5 ty c0 c1 c2 c3 c4 kv by') ?_ ?_; · (repeat (first | with_reducible exact R_10 | refine World.rangeAt_alloc ?_ _))))
  have k10 : w.heap.size ≤ V.heap.size := d10.size
  have nfR : w2.heap.size < w3.heap.size := zf_3
  clear f0_3 f1_3 f2_3 f3_3 f4_3 f5_3 zf_3 d3
  refine (H5.out _ (HT.out.below (by (repeat' (first | with_reducible exact d10 | refine Below.setCell ?_ (by first | omega | (simp; done) | (simp; omega)) _ | refine Below.alloc ?_ (by first | omega | (simp; done) | (simp; omega)) _))))).mono ?_
  rintro e w11 ⟨rfl, hb⟩
  have b11 : Below V.heap.size V w11 := bthen (by (repeat' (first | exact Below.refl _ _ | refine Below.setCell ?_ (by first | omega | (simp; done) | (simp; omega)) _ | refine Below.alloc ?_ (by first | omega | (simp; done) | (simp; omega)) _))) hb
  have d11 : Below w.heap.size w w11 := bthen d10 b11
  have k11 : w.heap.size ≤ w11.heap.size := d11.size
  have R_11 : w11.rangeAt (w3.heap.size) 0 ((gF c1 5 ty c0 c1 c2 c3 c4 kv by')).toList := range_below b11 (by omega) R_10
  have zR_11 : w3.heap.size < w11.heap.size := Nat.lt_of_lt_of_le zR_10 b11.size
  have f0_11 : w11.cell? ⟨w2.heap.size, 0, none⟩ = some (.int .u8 P) := (b11.cell (p := ⟨w2.heap.size, 0, none⟩) (by show w2.heap.size < V.heap.size; omega)).trans f0_10
  have f1_11 : w11.cell? ⟨w2.heap.size, 1, none⟩ = some (.int .u32 S) := (b11.cell (p := ⟨w2.heap.size, 1, none⟩) (by show w2.heap.size < V.heap.size; omega)).trans f1_10
  have f2_11 : w11.cell? ⟨w2.heap.size, 2, none⟩ = some (.int .u32 E) := (b11.cell (p := ⟨w2.heap.size, 2, none⟩) (by show w2.heap.size < V.heap.size; omega)).trans f2_10
  have f3_11 : w11.cell? ⟨w2.heap.size, 3, none⟩ = some (.int .u16 sp) := (b11.cell (p := ⟨w2.heap.size, 3, none⟩) (by show w2.heap.size < V.heap.size; omega)).trans f3_10
  have f4_11 : w11.cell? ⟨w2.heap.size, 4, none⟩ = some (.int .u16 dp) := (b11.cell (p := ⟨w2.heap.size, 4, none⟩) (by show w2.heap.size < V.heap.size; omega)).trans f4_10
  have f5_11 : w11.cell? ⟨w2.heap.size, 5, none⟩ = some (.int .u8 q0) := (b11.cell (p := ⟨w2.heap.size, 5, none⟩) (by show w2.heap.size < V.heap.size; omega)).trans f5_10
  have zf_11 : w2.heap.size < w11.heap.size := Nat.lt_of_lt_of_le zf_10 b11.size
  clear hb b11 d10 k10 R_10 zR_10 f0_10 f1_10 f2_10 f3_10 f4_10 f5_10 zf_10
  go_wp2_with (refine wpList_load_wide 29 _ rfl (by rfl) _ _ rfl (gF c1 5 ty c0 c1 c2 c3 c4 kv by') _ Tryd.underlying29 rfl (hi_gF c1 5 ty c0 c1 c2 c3 c4 kv by') ?_ ?_; · (repeat (first | with_reducible exact R_11 | refine World.rangeAt_alloc ?_ _)))
  refine (HLk.out _ (HT.out.below (by (repeat' (first | with_reducible exact d11 | refine Below.setCell ?_ (by first | omega | (simp; done) | (simp; omega)) _ | refine Below.alloc ?_ (by first | omega | (simp; done) | (simp; omega)) _))))).mono ?_
  rintro e w12 ⟨rfl, hb⟩
  have b12 : Below w11.heap.size w11 w12 := bthen (by (repeat' (first | exact Below.refl _ _ | refine Below.setCell ?_ (by first | omega | (simp; done) | (simp; omega)) _ | refine Below.alloc ?_ (by first | omega | (simp; done) | (simp; omega)) _))) hb
  have d12 : Below w.heap.size w w12 := bthen d11 b12
  have k12 : w.heap.size ≤ w12.heap.size := d12.size
  have R_12 : w12.rangeAt (w3.heap.size) 0 ((gF c1 5 ty c0 c1 c2 c3 c4 kv by')).toList := range_below b12 (by omega) R_11
  have zR_12 : w3.heap.size < w12.heap.size := Nat.lt_of_lt_of_le zR_11 b12.size
  have f0_12 : w12.cell? ⟨w2.heap.size, 0, none⟩ = some (.int .u8 P) := (b12.cell (p := ⟨w2.heap.size, 0, none⟩) (by show w2.heap.size < w11.heap.size; omega)).trans f0_11
  have f1_12 : w12.cell? ⟨w2.heap.size, 1, none⟩ = some (.int .u32 S) := (b12.cell (p := ⟨w2.heap.size, 1, none⟩) (by show w2.heap.size < w11.heap.size; omega)).trans f1_11
  have f2_12 : w12.cell? ⟨w2.heap.size, 2, none⟩ = some (.int .u32 E) := (b12.cell (p := ⟨w2.heap.size, 2, none⟩) (by show w2.heap.size < w11.heap.size; omega)).trans f2_11
  have f3_12 : w12.cell? ⟨w2.heap.size, 3, none⟩ = some (.int .u16 sp) := (b12.cell (p := ⟨w2.heap.size, 3, none⟩) (by show w2.heap.size < w11.heap.size; omega)).trans f3_11
  have f4_12 : w12.cell? ⟨w2.heap.size, 4, none⟩ = some (.int .u16 dp) := (b12.cell (p := ⟨w2.heap.size, 4, none⟩) (by show w2.heap.size < w11.heap.size; omega)).trans f4_11
  have f5_12 : w12.cell? ⟨w2.heap.size, 5, none⟩ = some (.int .u8 q0) := (b12.cell (p := ⟨w2.heap.size, 5, none⟩) (by show w2.heap.size < w11.heap.size; omega)).trans f5_11
  have zf_12 : w2.heap.size < w12.heap.size := Nat.lt_of_lt_of_le zf_11 b12.size
  clear hb b12 d11 k11 R_11 zR_11 f0_11 f1_11 f2_11 f3_11 f4_11 f5_11 zf_11
  have g0 : w12.cell? ⟨w3.heap.size, 13, none⟩ = some (.int .u8 c0) := rcell' R_12 rfl
  have g1 : w12.cell? ⟨w3.heap.size, 14, none⟩ = some (.int .u32 c1) := rcell' R_12 rfl
  have g2 : w12.cell? ⟨w3.heap.size, 15, none⟩ = some (.int .u32 c2) := rcell' R_12 rfl
  have g3 : w12.cell? ⟨w3.heap.size, 16, none⟩ = some (.int .u16 c3) := rcell' R_12 rfl
  have g4 : w12.cell? ⟨w3.heap.size, 17, none⟩ = some (.int .u16 c4) := rcell' R_12 rfl
  have HN := fun W => key_neq c0 c1 c2 c3 c4 W
  have h1 := HQ1.out
  have h2 := HQ1'.out
  have h3 := HW.out
  have h4 := HW'.out
  go_wp2_with (first | (refine wpList_store_wide 29 (.tmp 19) (.tmp 68) rfl rfl (w12.heap.size + 1) 0 (gF c1 5 ty c0 c1 c2 c3 c4 kv by') rfl rfl w.heap.size w (hi_gF c1 5 ty c0 c1 c2 c3 c4 kv by') (ho_gF c1 5 ty c0 c1 c2 c3 c4 kv by') ?_ (by omega) ?_ ?_; (· (repeat' (first | with_reducible exact d12 | refine Below.setCell ?_ (by first | omega | (simp; done) | (simp; omega)) _ | refine Below.alloc ?_ (by first | omega | (simp; done) | (simp; omega)) _))); (· (repeat (first | (refine there_new _ _ _ _ _ ?_ rfl; first | rfl | (simp; done)) | refine World.there_alloc ?_ _))); intro V2 e2 hz2 R2 kV2 tV2 hcV2; have y0 : V2.cell? ⟨w2.heap.size, 0, none⟩ = some (.int .u8 P) := (hcV2 w2.heap.size 0 (by omega)).trans (by simp [go_sem, f0_12, zf_12]); have y1 : V2.cell? ⟨w2.heap.size, 1, none⟩ = some (.int .u32 S) := (hcV2 w2.heap.size 1 (by omega)).trans (by simp [go_sem, f1_12, zf_12]); have y2 : V2.cell? ⟨w2.heap.size, 2, none⟩ = some (.int .u32 E) := (hcV2 w2.heap.size 2 (by omega)).trans (by simp [go_sem, f2_12, zf_12]); have y3 : V2.cell? ⟨w2.heap.size, 3, none⟩ = some (.int .u16 sp) := (hcV2 w2.heap.size 3 (by omega)).trans (by simp [go_sem, f3_12, zf_12]); have y4 : V2.cell? ⟨w2.heap.size, 4, none⟩ = some (.int .u16 dp) := (hcV2 w2.heap.size 4 (by omega)).trans (by simp [go_sem, f4_12, zf_12]); have y5 : V2.cell? ⟨w2.heap.size, 5, none⟩ = some (.int .u8 q0) := (hcV2 w2.heap.size 5 (by omega)).trans (by simp [go_sem, f5_12, zf_12]); have zy : w2.heap.size < V2.heap.size := (by rw [hz2]; simp; omega); have zb : w12.heap.size + 1 < V2.heap.size := (by rw [hz2]; simp); have cj := rcell' (j := 15) R2 rfl; have fj := tfree (tV2 (w12.heap.size + 1) 0 19 (by (repeat (first | (refine there_new _ _ _ _ _ ?_ rfl; first | rfl | (simp; done)) | refine World.there_alloc ?_ _)))) 15 (by decide); have R3 : (V2.setCell ⟨(w12.heap.size + 1), 15, none⟩ (.int .u32 ((c2 + 1) % 4294967296))).rangeAt (w12.heap.size + 1) 0 (gF c1 5 ty c0 c1 ((c2 + 1) % 4294967296) c3 c4 kv by').toList := range_put R2 15 (.int .u32 ((c2 + 1) % 4294967296)) fj; have e3 := e2.setCell (p := ⟨(w12.heap.size + 1), 15, none⟩) (by show w.heap.size ≤ w12.heap.size + 1; omega) (.int .u32 ((c2 + 1) % 4294967296)); have ny : w2.heap.size ≠ w12.heap.size + 1 := (by omega); have ny' : w12.heap.size + 1 ≠ w2.heap.size := (by omega); clear hcV2 kV2 tV2 hz2) | (refine wpList_load_wide 29 _ rfl (by rfl) _ _ rfl (gF c1 5 ty c0 c1 c2 c3 c4 kv by') _ Tryd.underlying29 rfl (hi_gF c1 5 ty c0 c1 c2 c3 c4 kv by') ?_ ?_; · (repeat (first | with_reducible exact R_12 | refine World.rangeAt_alloc ?_ _))) | (refine wpList_load_wide 29 _ rfl (by rfl) _ _ rfl (gF c1 5 ty c0 c1 ((c2 + 1) % 4294967296) c3 c4 kv by') _ Tryd.underlying29 rfl (hi_gF c1 5 ty c0 c1 ((c2 + 1) % 4294967296) c3 c4 kv by') ?_ ?_; · (repeat (first | with_reducible exact R3 | refine World.rangeAt_alloc ?_ _))))
  refine (H8.out _ (HT.out.below (by (repeat' (first | with_reducible exact e3 | refine Below.setCell ?_ (by first | omega | (simp; done) | (simp; omega)) _ | refine Below.alloc ?_ (by first | omega | (simp; done) | (simp; omega)) _))))).mono ?_
  rintro e w13 ⟨rfl, hb⟩
  have b13 := bthen e3 hb
  clear hb
  go_wp2_with fail
  go_ret
  exact ⟨rfl, b13⟩

set_option maxRecDepth 100000 in
set_option maxHeartbeats 16000000 in
theorem belongs_7 (p s d sp dp side dir by' way : Int) (P S E q0 c0 c1 c2 c3 c4 ty kv fr q1 : Int) (w : World) (HT : Hid (Tabs w))
    (HR : Hid (∀ W, Calls Tryd.prog 13 #[.agg #[.int .u8 p, .int .u32 s, .int .u32 d, .int .u16 sp, .int .u16 dp], .int .u8 side] W fun e w' => e = .returned (.agg #[.int .u8 P, .int .u32 S, .int .u32 E, .int .u16 sp, .int .u16 dp, .int .u8 q0]) ∧ Below W.heap.size W w'))
    (HG : Hid (∀ W, Tabs W → Calls Tryd.prog 14 #[.agg #[.int .u8 P, .int .u32 S, .int .u32 E, .int .u16 sp, .int .u16 dp, .int .u8 q0], .int .u8 dir, .int .u32 by'] W fun e w' => e = .returned (.tuple #[.agg (gF c1 5 ty c0 c1 c2 c3 c4 kv by'), .int .u8 fr, .bool true]) ∧ Below W.heap.size W w'))
    (hP : Hid (0 ≤ P ∧ P ≤ 255)) (hq0 : Hid (0 ≤ q0)) (hfr : 0 ≤ fr) (hfr1 : fr ≤ 1) (hk2 : 0 ≤ c2) (hk2' : c2 ≤ 4294967295) (hk3 : 0 ≤ c3) (hk3' : c3 ≤ 65535) (hk4 : 0 ≤ c4) (hk4' : c4 ≤ 65535) (hdir : 0 ≤ dir) (hdir' : dir ≤ 255) (hway : 0 ≤ way) (hway' : way ≤ 255)
    (HF : Hid (Fa (gF c1 5 ty c0 c1 c2 c3 c4 kv by') c1 5 ty c0 c1 c2 c3 c4 kv)) (HGF : Hid (Fa (gF c1 5 ty c0 c1 c2 c3 c4 5 by') c1 5 ty c0 c1 c2 c3 c4 5)) (Hyes : Hid (quo P S E sp dp q0 c1 5 ty c0 c1 c2 c3 c4 kv fr = (q1, true))) (Hcan : Hid (can c1 5 ty c0 c1 kv = true)) (Hno : Hid (quo P S E sp dp q0 c1 5 ty c0 c1 c2 c3 c4 5 fr = (0, false)))
    (HQ1 : Hid (dir % 2 = q1)) (HQ1' : Hid (dir.tmod 2 = q1)) (HW : Hid (way % 9 = 7)) (HW' : Hid (way.tmod 9 = 7)) :
    Calls Tryd.prog 4 #[.agg #[.int .u8 p, .int .u32 s, .int .u32 d, .int .u16 sp, .int .u16 dp], .int .u8 side, .int .u8 dir, .int .u32 by', .int .u8 way] w fun e w' => e = .returned (.bool true) ∧ Below w.heap.size w w' := by
  have H5 := Lib.hid (fun W (hW : Tabs W) => quotes_is (gF c1 5 ty c0 c1 c2 c3 c4 kv by') P S E sp dp q0 c1 5 ty c0 c1 c2 c3 c4 kv fr q1 true W HF.out hW hP.out hq0.out hfr Hyes.out)
  have HLk := Lib.hid (fun W (hW : Tabs W) => lookup_below (gF c1 5 ty c0 c1 c2 c3 c4 kv by') c1 5 ty c0 c1 c2 c3 c4 kv W HF.out hW)
  rw [Hcan.out] at HLk
  simp only [pk, if_true] at HLk
  have H8 := Lib.hid (fun W (hW : Tabs W) => quotes_is (gF c1 5 ty c0 c1 c2 c3 c4 5 by') P S E sp dp q0 c1 5 ty c0 c1 c2 c3 c4 5 fr 0 false W HGF.out hW hP.out hq0.out (by omega) Hno.out)
  clear HF HGF Hyes Hcan Hno hP hq0
  go_enter Tryd.func4, Tryd.ntmps4
  go_wp2_with fail
  refine (awake_any _ (HT.out.below (by (repeat' (first | exact Below.refl _ _ | refine Below.setCell ?_ (by first | omega | (simp; done) | (simp; omega)) _ | refine Below.alloc ?_ (by first | omega | (simp; done) | (simp; omega)) _))))).mono ?_
  rintro e w1 ⟨rfl, hb⟩
  have b1 : Below w.heap.size w w1 := bthen (by (repeat' (first | exact Below.refl _ _ | refine Below.setCell ?_ (by first | omega | (simp; done) | (simp; omega)) _ | refine Below.alloc ?_ (by first | omega | (simp; done) | (simp; omega)) _))) hb
  have d1 : Below w.heap.size w w1 := b1
  have k1 : w.heap.size ≤ w1.heap.size := d1.size
  have x0_1 : w1.cell? ⟨w.heap.size, 0, none⟩ = some (.int .u8 p) := (hb.cell (p := ⟨w.heap.size, 0, none⟩) (by first | (simp; done) | (simp; omega))).trans (by simp [go_sem])
  have x1_1 : w1.cell? ⟨w.heap.size, 1, none⟩ = some (.int .u32 s) := (hb.cell (p := ⟨w.heap.size, 1, none⟩) (by first | (simp; done) | (simp; omega))).trans (by simp [go_sem])
  have x2_1 : w1.cell? ⟨w.heap.size, 2, none⟩ = some (.int .u32 d) := (hb.cell (p := ⟨w.heap.size, 2, none⟩) (by first | (simp; done) | (simp; omega))).trans (by simp [go_sem])
  have x3_1 : w1.cell? ⟨w.heap.size, 3, none⟩ = some (.int .u16 sp) := (hb.cell (p := ⟨w.heap.size, 3, none⟩) (by first | (simp; done) | (simp; omega))).trans (by simp [go_sem])
  have x4_1 : w1.cell? ⟨w.heap.size, 4, none⟩ = some (.int .u16 dp) := (hb.cell (p := ⟨w.heap.size, 4, none⟩) (by first | (simp; done) | (simp; omega))).trans (by simp [go_sem])
  have zx_1 : w.heap.size < w1.heap.size := by have := hb.size; simp at this; omega
  clear hb
  go_wp2_with fail
  refine (HR.out _).mono ?_
  rintro e w2 ⟨rfl, hb⟩
  have b2 : Below w1.heap.size w1 w2 := bthen (by (repeat' (first | exact Below.refl _ _ | refine Below.setCell ?_ (by first | omega | (simp; done) | (simp; omega)) _ | refine Below.alloc ?_ (by first | omega | (simp; done) | (simp; omega)) _))) hb
  have d2 : Below w.heap.size w w2 := bthen d1 b2
  have k2 : w.heap.size ≤ w2.heap.size := d2.size
  have x0_2 : w2.cell? ⟨w.heap.size, 0, none⟩ = some (.int .u8 p) := (b2.cell (p := ⟨w.heap.size, 0, none⟩) (by show w.heap.size < w1.heap.size; omega)).trans x0_1
  have x1_2 : w2.cell? ⟨w.heap.size, 1, none⟩ = some (.int .u32 s) := (b2.cell (p := ⟨w.heap.size, 1, none⟩) (by show w.heap.size < w1.heap.size; omega)).trans x1_1
  have x2_2 : w2.cell? ⟨w.heap.size, 2, none⟩ = some (.int .u32 d) := (b2.cell (p := ⟨w.heap.size, 2, none⟩) (by show w.heap.size < w1.heap.size; omega)).trans x2_1
  have x3_2 : w2.cell? ⟨w.heap.size, 3, none⟩ = some (.int .u16 sp) := (b2.cell (p := ⟨w.heap.size, 3, none⟩) (by show w.heap.size < w1.heap.size; omega)).trans x3_1
  have x4_2 : w2.cell? ⟨w.heap.size, 4, none⟩ = some (.int .u16 dp) := (b2.cell (p := ⟨w.heap.size, 4, none⟩) (by show w.heap.size < w1.heap.size; omega)).trans x4_1
  have zx_2 : w.heap.size < w2.heap.size := Nat.lt_of_lt_of_le zx_1 b2.size
  clear hb b2 d1 k1 x0_1 x1_1 x2_1 x3_1 x4_1 zx_1
  clear x0_2 x1_2 x2_2 x3_2 x4_2 zx_2
  go_wp2_with fail
  refine (HG.out _ (HT.out.below (by (repeat' (first | with_reducible exact d2 | refine Below.setCell ?_ (by first | omega | (simp; done) | (simp; omega)) _ | refine Below.alloc ?_ (by first | omega | (simp; done) | (simp; omega)) _))))).mono ?_
  rintro e w3 ⟨rfl, hb⟩
  have b3 : Below w2.heap.size w2 w3 := bthen (by (repeat' (first | exact Below.refl _ _ | refine Below.setCell ?_ (by first | omega | (simp; done) | (simp; omega)) _ | refine Below.alloc ?_ (by first | omega | (simp; done) | (simp; omega)) _))) hb
  have d3 : Below w.heap.size w w3 := bthen d2 b3
  have k3 : w.heap.size ≤ w3.heap.size := d3.size
  have f0_3 : w3.cell? ⟨w2.heap.size, 0, none⟩ = some (.int .u8 P) := (hb.cell (p := ⟨w2.heap.size, 0, none⟩) (by first | (simp; done) | (simp; omega))).trans (by simp [go_sem])
  have f1_3 : w3.cell? ⟨w2.heap.size, 1, none⟩ = some (.int .u32 S) := (hb.cell (p := ⟨w2.heap.size, 1, none⟩) (by first | (simp; done) | (simp; omega))).trans (by simp [go_sem])
  have f2_3 : w3.cell? ⟨w2.heap.size, 2, none⟩ = some (.int .u32 E) := (hb.cell (p := ⟨w2.heap.size, 2, none⟩) (by first | (simp; done) | (simp; omega))).trans (by simp [go_sem])
  have f3_3 : w3.cell? ⟨w2.heap.size, 3, none⟩ = some (.int .u16 sp) := (hb.cell (p := ⟨w2.heap.size, 3, none⟩) (by first | (simp; done) | (simp; omega))).trans (by simp [go_sem])
  have f4_3 : w3.cell? ⟨w2.heap.size, 4, none⟩ = some (.int .u16 dp) := (hb.cell (p := ⟨w2.heap.size, 4, none⟩) (by first | (simp; done) | (simp; omega))).trans (by simp [go_sem])
  have f5_3 : w3.cell? ⟨w2.heap.size, 5, none⟩ = some (.int .u8 q0) := (hb.cell (p := ⟨w2.heap.size, 5, none⟩) (by first | (simp; done) | (simp; omega))).trans (by simp [go_sem])
  have zf_3 : w2.heap.size < w3.heap.size := by have := hb.size; simp at this; omega
  clear hb b3 d2 k2
  go_wp2_with (first | (refine wpList_store_wide 29 (.tmp 12) (.tmp 31) rfl rfl w3.heap.size 0 (gF c1 5 ty c0 c1 c2 c3 c4 kv by') rfl rfl w.heap.size w (hi_gF c1 5 ty c0 c1 c2 c3 c4 kv by') (ho_gF c1 5 ty c0 c1 c2 c3 c4 kv by') ?_ (by omega) ?_ ?_; (· (repeat' (first | with_reducible exact d3 | refine Below.setCell ?_ (by first | omega | (simp; done) | (simp; omega)) _ | refine Below.alloc ?_ (by first | omega | (simp; done) | (simp; omega)) _))); (· (repeat (first | (refine there_new _ _ _ _ _ ?_ rfl; first | rfl | (simp; done)) | refine World.there_alloc ?_ _))); intro V d10 hzV R_10 kV tV hcV; have f0_10 : V.cell? ⟨w2.heap.size, 0, none⟩ = some (.int .u8 P) := (hcV w2.heap.size 0 (by omega)).trans (by simp [go_sem, f0_3, zf_3]); have f1_10 : V.cell? ⟨w2.heap.size, 1, none⟩ = some (.int .u32 S) := (hcV w2.heap.size 1 (by omega)).trans (by simp [go_sem, f1_3, zf_3]); have f2_10 : V.cell? ⟨w2.heap.size, 2, none⟩ = some (.int .u32 E) := (hcV w2.heap.size 2 (by omega)).trans (by simp [go_sem, f2_3, zf_3]); have f3_10 : V.cell? ⟨w2.heap.size, 3, none⟩ = some (.int .u16 sp) := (hcV w2.heap.size 3 (by omega)).trans (by simp [go_sem, f3_3, zf_3]); have f4_10 : V.cell? ⟨w2.heap.size, 4, none⟩ = some (.int .u16 dp) := (hcV w2.heap.size 4 (by omega)).trans (by simp [go_sem, f4_3, zf_3]); have f5_10 : V.cell? ⟨w2.heap.size, 5, none⟩ = some (.int .u8 q0) := (hcV w2.heap.size 5 (by omega)).trans (by simp [go_sem, f5_3, zf_3]); have zf_10 : w2.heap.size < V.heap.size := (by rw [hzV]; simp; omega); have zR_10 : w3.heap.size < V.heap.size := (by rw [hzV]; simp); clear hcV hzV kV tV) | (refine wpList_load_wide 29 _ rfl (by rfl) _ _ rfl (gF c1 5 ty c0 c1 c2 c3 c4 kv by') _ Tryd.underlying29 rfl (hi_gF c1 5 ty c0 c1 c2 c3 c4 kv by') ?_ ?_; · (repeat (first | with_reducible exact R_10 | refine World.rangeAt_alloc ?_ _))))
  have k10 : w.heap.size ≤ V.heap.size := d10.size
  have nfR : w2.heap.size < w3.heap.size := zf_3
  clear f0_3 f1_3 f2_3 f3_3 f4_3 f5_3 zf_3 d3
  refine (H5.out _ (HT.out.below (by (repeat' (first | with_reducible exact d10 | refine Below.setCell ?_ (by first | omega | (simp; done) | (simp; omega)) _ | refine Below.alloc ?_ (by first | omega | (simp; done) | (simp; omega)) _))))).mono ?_
  rintro e w11 ⟨rfl, hb⟩
  have b11 : Below V.heap.size V w11 := bthen (by (repeat' (first | exact Below.refl _ _ | refine Below.setCell ?_ (by first | omega | (simp; done) | (simp; omega)) _ | refine Below.alloc ?_ (by first | omega | (simp; done) | (simp; omega)) _))) hb
  have d11 : Below w.heap.size w w11 := bthen d10 b11
  have k11 : w.heap.size ≤ w11.heap.size := d11.size
  have R_11 : w11.rangeAt (w3.heap.size) 0 ((gF c1 5 ty c0 c1 c2 c3 c4 kv by')).toList := range_below b11 (by omega) R_10
  have zR_11 : w3.heap.size < w11.heap.size := Nat.lt_of_lt_of_le zR_10 b11.size
  have f0_11 : w11.cell? ⟨w2.heap.size, 0, none⟩ = some (.int .u8 P) := (b11.cell (p := ⟨w2.heap.size, 0, none⟩) (by show w2.heap.size < V.heap.size; omega)).trans f0_10
  have f1_11 : w11.cell? ⟨w2.heap.size, 1, none⟩ = some (.int .u32 S) := (b11.cell (p := ⟨w2.heap.size, 1, none⟩) (by show w2.heap.size < V.heap.size; omega)).trans f1_10
  have f2_11 : w11.cell? ⟨w2.heap.size, 2, none⟩ = some (.int .u32 E) := (b11.cell (p := ⟨w2.heap.size, 2, none⟩) (by show w2.heap.size < V.heap.size; omega)).trans f2_10
  have f3_11 : w11.cell? ⟨w2.heap.size, 3, none⟩ = some (.int .u16 sp) := (b11.cell (p := ⟨w2.heap.size, 3, none⟩) (by show w2.heap.size < V.heap.size; omega)).trans f3_10
  have f4_11 : w11.cell? ⟨w2.heap.size, 4, none⟩ = some (.int .u16 dp) := (b11.cell (p := ⟨w2.heap.size, 4, none⟩) (by show w2.heap.size < V.heap.size; omega)).trans f4_10
  have f5_11 : w11.cell? ⟨w2.heap.size, 5, none⟩ = some (.int .u8 q0) := (b11.cell (p := ⟨w2.heap.size, 5, none⟩) (by show w2.heap.size < V.heap.size; omega)).trans f5_10
  have zf_11 : w2.heap.size < w11.heap.size := Nat.lt_of_lt_of_le zf_10 b11.size
  clear hb b11 d10 k10 R_10 zR_10 f0_10 f1_10 f2_10 f3_10 f4_10 f5_10 zf_10
  go_wp2_with (refine wpList_load_wide 29 _ rfl (by rfl) _ _ rfl (gF c1 5 ty c0 c1 c2 c3 c4 kv by') _ Tryd.underlying29 rfl (hi_gF c1 5 ty c0 c1 c2 c3 c4 kv by') ?_ ?_; · (repeat (first | with_reducible exact R_11 | refine World.rangeAt_alloc ?_ _)))
  refine (HLk.out _ (HT.out.below (by (repeat' (first | with_reducible exact d11 | refine Below.setCell ?_ (by first | omega | (simp; done) | (simp; omega)) _ | refine Below.alloc ?_ (by first | omega | (simp; done) | (simp; omega)) _))))).mono ?_
  rintro e w12 ⟨rfl, hb⟩
  have b12 : Below w11.heap.size w11 w12 := bthen (by (repeat' (first | exact Below.refl _ _ | refine Below.setCell ?_ (by first | omega | (simp; done) | (simp; omega)) _ | refine Below.alloc ?_ (by first | omega | (simp; done) | (simp; omega)) _))) hb
  have d12 : Below w.heap.size w w12 := bthen d11 b12
  have k12 : w.heap.size ≤ w12.heap.size := d12.size
  have R_12 : w12.rangeAt (w3.heap.size) 0 ((gF c1 5 ty c0 c1 c2 c3 c4 kv by')).toList := range_below b12 (by omega) R_11
  have zR_12 : w3.heap.size < w12.heap.size := Nat.lt_of_lt_of_le zR_11 b12.size
  have f0_12 : w12.cell? ⟨w2.heap.size, 0, none⟩ = some (.int .u8 P) := (b12.cell (p := ⟨w2.heap.size, 0, none⟩) (by show w2.heap.size < w11.heap.size; omega)).trans f0_11
  have f1_12 : w12.cell? ⟨w2.heap.size, 1, none⟩ = some (.int .u32 S) := (b12.cell (p := ⟨w2.heap.size, 1, none⟩) (by show w2.heap.size < w11.heap.size; omega)).trans f1_11
  have f2_12 : w12.cell? ⟨w2.heap.size, 2, none⟩ = some (.int .u32 E) := (b12.cell (p := ⟨w2.heap.size, 2, none⟩) (by show w2.heap.size < w11.heap.size; omega)).trans f2_11
  have f3_12 : w12.cell? ⟨w2.heap.size, 3, none⟩ = some (.int .u16 sp) := (b12.cell (p := ⟨w2.heap.size, 3, none⟩) (by show w2.heap.size < w11.heap.size; omega)).trans f3_11
  have f4_12 : w12.cell? ⟨w2.heap.size, 4, none⟩ = some (.int .u16 dp) := (b12.cell (p := ⟨w2.heap.size, 4, none⟩) (by show w2.heap.size < w11.heap.size; omega)).trans f4_11
  have f5_12 : w12.cell? ⟨w2.heap.size, 5, none⟩ = some (.int .u8 q0) := (b12.cell (p := ⟨w2.heap.size, 5, none⟩) (by show w2.heap.size < w11.heap.size; omega)).trans f5_11
  have zf_12 : w2.heap.size < w12.heap.size := Nat.lt_of_lt_of_le zf_11 b12.size
  clear hb b12 d11 k11 R_11 zR_11 f0_11 f1_11 f2_11 f3_11 f4_11 f5_11 zf_11
  have g0 : w12.cell? ⟨w3.heap.size, 13, none⟩ = some (.int .u8 c0) := rcell' R_12 rfl
  have g1 : w12.cell? ⟨w3.heap.size, 14, none⟩ = some (.int .u32 c1) := rcell' R_12 rfl
  have g2 : w12.cell? ⟨w3.heap.size, 15, none⟩ = some (.int .u32 c2) := rcell' R_12 rfl
  have g3 : w12.cell? ⟨w3.heap.size, 16, none⟩ = some (.int .u16 c3) := rcell' R_12 rfl
  have g4 : w12.cell? ⟨w3.heap.size, 17, none⟩ = some (.int .u16 c4) := rcell' R_12 rfl
  have HN := fun W => key_neq c0 c1 c2 c3 c4 W
  have h1 := HQ1.out
  have h2 := HQ1'.out
  have h3 := HW.out
  have h4 := HW'.out
  go_wp2_with (first | (refine wpList_store_wide 29 (.tmp 19) (.tmp 68) rfl rfl (w12.heap.size + 1) 0 (gF c1 5 ty c0 c1 c2 c3 c4 kv by') rfl rfl w.heap.size w (hi_gF c1 5 ty c0 c1 c2 c3 c4 kv by') (ho_gF c1 5 ty c0 c1 c2 c3 c4 kv by') ?_ (by omega) ?_ ?_; (· (repeat' (first | with_reducible exact d12 | refine Below.setCell ?_ (by first | omega | (simp; done) | (simp; omega)) _ | refine Below.alloc ?_ (by first | omega | (simp; done) | (simp; omega)) _))); (· (repeat (first | (refine there_new _ _ _ _ _ ?_ rfl; first | rfl | (simp; done)) | refine World.there_alloc ?_ _))); intro V2 e2 hz2 R2 kV2 tV2 hcV2; have y0 : V2.cell? ⟨w2.heap.size, 0, none⟩ = some (.int .u8 P) := (hcV2 w2.heap.size 0 (by omega)).trans (by simp [go_sem, f0_12, zf_12]); have y1 : V2.cell? ⟨w2.heap.size, 1, none⟩ = some (.int .u32 S) := (hcV2 w2.heap.size 1 (by omega)).trans (by simp [go_sem, f1_12, zf_12]); have y2 : V2.cell? ⟨w2.heap.size, 2, none⟩ = some (.int .u32 E) := (hcV2 w2.heap.size 2 (by omega)).trans (by simp [go_sem, f2_12, zf_12]); have y3 : V2.cell? ⟨w2.heap.size, 3, none⟩ = some (.int .u16 sp) := (hcV2 w2.heap.size 3 (by omega)).trans (by simp [go_sem, f3_12, zf_12]); have y4 : V2.cell? ⟨w2.heap.size, 4, none⟩ = some (.int .u16 dp) := (hcV2 w2.heap.size 4 (by omega)).trans (by simp [go_sem, f4_12, zf_12]); have y5 : V2.cell? ⟨w2.heap.size, 5, none⟩ = some (.int .u8 q0) := (hcV2 w2.heap.size 5 (by omega)).trans (by simp [go_sem, f5_12, zf_12]); have zy : w2.heap.size < V2.heap.size := (by rw [hz2]; simp; omega); have zb : w12.heap.size + 1 < V2.heap.size := (by rw [hz2]; simp); have cj := rcell' (j := 18) R2 rfl; have fj := tfree (tV2 (w12.heap.size + 1) 0 19 (by (repeat (first | (refine there_new _ _ _ _ _ ?_ rfl; first | rfl | (simp; done)) | refine World.there_alloc ?_ _)))) 18 (by decide); have R3 : (V2.setCell ⟨(w12.heap.size + 1), 18, none⟩ (.int .u8 5)).rangeAt (w12.heap.size + 1) 0 (gF c1 5 ty c0 c1 c2 c3 c4 5 by').toList := range_put R2 18 (.int .u8 5) fj; have e3 := e2.setCell (p := ⟨(w12.heap.size + 1), 18, none⟩) (by show w.heap.size ≤ w12.heap.size + 1; omega) (.int .u8 5); have ny : w2.heap.size ≠ w12.heap.size + 1 := (by omega); have ny' : w12.heap.size + 1 ≠ w2.heap.size := (by omega); clear hcV2 kV2 tV2 hz2) | (refine wpList_load_wide 29 _ rfl (by rfl) _ _ rfl (gF c1 5 ty c0 c1 c2 c3 c4 kv by') _ Tryd.underlying29 rfl (hi_gF c1 5 ty c0 c1 c2 c3 c4 kv by') ?_ ?_; · (repeat (first | with_reducible exact R_12 | refine World.rangeAt_alloc ?_ _))) | (refine wpList_load_wide 29 _ rfl (by rfl) _ _ rfl (gF c1 5 ty c0 c1 c2 c3 c4 5 by') _ Tryd.underlying29 rfl (hi_gF c1 5 ty c0 c1 c2 c3 c4 5 by') ?_ ?_; · (repeat (first | with_reducible exact R3 | refine World.rangeAt_alloc ?_ _))))
  refine (H8.out _ (HT.out.below (by (repeat' (first | with_reducible exact e3 | refine Below.setCell ?_ (by first | omega | (simp; done) | (simp; omega)) _ | refine Below.alloc ?_ (by first | omega | (simp; done) | (simp; omega)) _))))).mono ?_
  rintro e w13 ⟨rfl, hb⟩
  have b13 := bthen e3 hb
  clear hb
  go_wp2_with fail
  go_ret
  exact ⟨rfl, b13⟩

set_option maxRecDepth 100000 in
set_option maxHeartbeats 16000000 in
theorem belongs_8 (p s d sp dp side dir by' way : Int) (P S E q0 c0 c1 c2 c3 c4 ty kv fr q1 : Int) (w : World) (HT : Hid (Tabs w))
    (HR : Hid (∀ W, Calls Tryd.prog 13 #[.agg #[.int .u8 p, .int .u32 s, .int .u32 d, .int .u16 sp, .int .u16 dp], .int .u8 side] W fun e w' => e = .returned (.agg #[.int .u8 P, .int .u32 S, .int .u32 E, .int .u16 sp, .int .u16 dp, .int .u8 q0]) ∧ Below W.heap.size W w'))
    (HG : Hid (∀ W, Tabs W → Calls Tryd.prog 14 #[.agg #[.int .u8 P, .int .u32 S, .int .u32 E, .int .u16 sp, .int .u16 dp, .int .u8 q0], .int .u8 dir, .int .u32 by'] W fun e w' => e = .returned (.tuple #[.agg (gF c1 5 ty c0 c1 c2 c3 c4 kv by'), .int .u8 fr, .bool true]) ∧ Below W.heap.size W w'))
    (hP : Hid (0 ≤ P ∧ P ≤ 255)) (hq0 : Hid (0 ≤ q0)) (hfr : 0 ≤ fr) (hfr1 : fr ≤ 1) (hk2 : 0 ≤ c2) (hk2' : c2 ≤ 4294967295) (hk3 : 0 ≤ c3) (hk3' : c3 ≤ 65535) (hk4 : 0 ≤ c4) (hk4' : c4 ≤ 65535) (hdir : 0 ≤ dir) (hdir' : dir ≤ 255) (hway : 0 ≤ way) (hway' : way ≤ 255)
    (HF : Hid (Fa (gF c1 5 ty c0 c1 c2 c3 c4 kv by') c1 5 ty c0 c1 c2 c3 c4 kv)) (HGF : Hid (Fa (gF c1 5 ty 47 c1 c2 c3 c4 kv by') c1 5 ty 47 c1 c2 c3 c4 kv)) (Hyes : Hid (quo P S E sp dp q0 c1 5 ty c0 c1 c2 c3 c4 kv fr = (q1, true))) (Hcan : Hid (can c1 5 ty c0 c1 kv = true)) (Hno : Hid (quo P S E sp dp q0 c1 5 ty 47 c1 c2 c3 c4 kv fr = (0, false)))
    (HQ1 : Hid (dir % 2 = q1)) (HQ1' : Hid (dir.tmod 2 = q1)) (HW : Hid (way % 9 = 8)) (HW' : Hid (way.tmod 9 = 8)) :
    Calls Tryd.prog 4 #[.agg #[.int .u8 p, .int .u32 s, .int .u32 d, .int .u16 sp, .int .u16 dp], .int .u8 side, .int .u8 dir, .int .u32 by', .int .u8 way] w fun e w' => e = .returned (.bool true) ∧ Below w.heap.size w w' := by
  have H5 := Lib.hid (fun W (hW : Tabs W) => quotes_is (gF c1 5 ty c0 c1 c2 c3 c4 kv by') P S E sp dp q0 c1 5 ty c0 c1 c2 c3 c4 kv fr q1 true W HF.out hW hP.out hq0.out hfr Hyes.out)
  have HLk := Lib.hid (fun W (hW : Tabs W) => lookup_below (gF c1 5 ty c0 c1 c2 c3 c4 kv by') c1 5 ty c0 c1 c2 c3 c4 kv W HF.out hW)
  rw [Hcan.out] at HLk
  simp only [pk, if_true] at HLk
  have H8 := Lib.hid (fun W (hW : Tabs W) => quotes_is (gF c1 5 ty 47 c1 c2 c3 c4 kv by') P S E sp dp q0 c1 5 ty 47 c1 c2 c3 c4 kv fr 0 false W HGF.out hW hP.out hq0.out (by omega) Hno.out)
  clear HF HGF Hyes Hcan Hno hP hq0
  go_enter Tryd.func4, Tryd.ntmps4
  go_wp2_with fail
  refine (awake_any _ (HT.out.below (by (repeat' (first | exact Below.refl _ _ | refine Below.setCell ?_ (by first | omega | (simp; done) | (simp; omega)) _ | refine Below.alloc ?_ (by first | omega | (simp; done) | (simp; omega)) _))))).mono ?_
  rintro e w1 ⟨rfl, hb⟩
  have b1 : Below w.heap.size w w1 := bthen (by (repeat' (first | exact Below.refl _ _ | refine Below.setCell ?_ (by first | omega | (simp; done) | (simp; omega)) _ | refine Below.alloc ?_ (by first | omega | (simp; done) | (simp; omega)) _))) hb
  have d1 : Below w.heap.size w w1 := b1
  have k1 : w.heap.size ≤ w1.heap.size := d1.size
  have x0_1 : w1.cell? ⟨w.heap.size, 0, none⟩ = some (.int .u8 p) := (hb.cell (p := ⟨w.heap.size, 0, none⟩) (by first | (simp; done) | (simp; omega))).trans (by simp [go_sem])
  have x1_1 : w1.cell? ⟨w.heap.size, 1, none⟩ = some (.int .u32 s) := (hb.cell (p := ⟨w.heap.size, 1, none⟩) (by first | (simp; done) | (simp; omega))).trans (by simp [go_sem])
  have x2_1 : w1.cell? ⟨w.heap.size, 2, none⟩ = some (.int .u32 d) := (hb.cell (p := ⟨w.heap.size, 2, none⟩) (by first | (simp; done) | (simp; omega))).trans (by simp [go_sem])
  have x3_1 : w1.cell? ⟨w.heap.size, 3, none⟩ = some (.int .u16 sp) := (hb.cell (p := ⟨w.heap.size, 3, none⟩) (by first | (simp; done) | (simp; omega))).trans (by simp [go_sem])
  have x4_1 : w1.cell? ⟨w.heap.size, 4, none⟩ = some (.int .u16 dp) := (hb.cell (p := ⟨w.heap.size, 4, none⟩) (by first | (simp; done) | (simp; omega))).trans (by simp [go_sem])
  have zx_1 : w.heap.size < w1.heap.size := by have := hb.size; simp at this; omega
  clear hb
  go_wp2_with fail
  refine (HR.out _).mono ?_
  rintro e w2 ⟨rfl, hb⟩
  have b2 : Below w1.heap.size w1 w2 := bthen (by (repeat' (first | exact Below.refl _ _ | refine Below.setCell ?_ (by first | omega | (simp; done) | (simp; omega)) _ | refine Below.alloc ?_ (by first | omega | (simp; done) | (simp; omega)) _))) hb
  have d2 : Below w.heap.size w w2 := bthen d1 b2
  have k2 : w.heap.size ≤ w2.heap.size := d2.size
  have x0_2 : w2.cell? ⟨w.heap.size, 0, none⟩ = some (.int .u8 p) := (b2.cell (p := ⟨w.heap.size, 0, none⟩) (by show w.heap.size < w1.heap.size; omega)).trans x0_1
  have x1_2 : w2.cell? ⟨w.heap.size, 1, none⟩ = some (.int .u32 s) := (b2.cell (p := ⟨w.heap.size, 1, none⟩) (by show w.heap.size < w1.heap.size; omega)).trans x1_1
  have x2_2 : w2.cell? ⟨w.heap.size, 2, none⟩ = some (.int .u32 d) := (b2.cell (p := ⟨w.heap.size, 2, none⟩) (by show w.heap.size < w1.heap.size; omega)).trans x2_1
  have x3_2 : w2.cell? ⟨w.heap.size, 3, none⟩ = some (.int .u16 sp) := (b2.cell (p := ⟨w.heap.size, 3, none⟩) (by show w.heap.size < w1.heap.size; omega)).trans x3_1
  have x4_2 : w2.cell? ⟨w.heap.size, 4, none⟩ = some (.int .u16 dp) := (b2.cell (p := ⟨w.heap.size, 4, none⟩) (by show w.heap.size < w1.heap.size; omega)).trans x4_1
  have zx_2 : w.heap.size < w2.heap.size := Nat.lt_of_lt_of_le zx_1 b2.size
  clear hb b2 d1 k1 x0_1 x1_1 x2_1 x3_1 x4_1 zx_1
  clear x0_2 x1_2 x2_2 x3_2 x4_2 zx_2
  go_wp2_with fail
  refine (HG.out _ (HT.out.below (by (repeat' (first | with_reducible exact d2 | refine Below.setCell ?_ (by first | omega | (simp; done) | (simp; omega)) _ | refine Below.alloc ?_ (by first | omega | (simp; done) | (simp; omega)) _))))).mono ?_
  rintro e w3 ⟨rfl, hb⟩
  have b3 : Below w2.heap.size w2 w3 := bthen (by (repeat' (first | exact Below.refl _ _ | refine Below.setCell ?_ (by first | omega | (simp; done) | (simp; omega)) _ | refine Below.alloc ?_ (by first | omega | (simp; done) | (simp; omega)) _))) hb
  have d3 : Below w.heap.size w w3 := bthen d2 b3
  have k3 : w.heap.size ≤ w3.heap.size := d3.size
  have f0_3 : w3.cell? ⟨w2.heap.size, 0, none⟩ = some (.int .u8 P) := (hb.cell (p := ⟨w2.heap.size, 0, none⟩) (by first | (simp; done) | (simp; omega))).trans (by simp [go_sem])
  have f1_3 : w3.cell? ⟨w2.heap.size, 1, none⟩ = some (.int .u32 S) := (hb.cell (p := ⟨w2.heap.size, 1, none⟩) (by first | (simp; done) | (simp; omega))).trans (by simp [go_sem])
  have f2_3 : w3.cell? ⟨w2.heap.size, 2, none⟩ = some (.int .u32 E) := (hb.cell (p := ⟨w2.heap.size, 2, none⟩) (by first | (simp; done) | (simp; omega))).trans (by simp [go_sem])
  have f3_3 : w3.cell? ⟨w2.heap.size, 3, none⟩ = some (.int .u16 sp) := (hb.cell (p := ⟨w2.heap.size, 3, none⟩) (by first | (simp; done) | (simp; omega))).trans (by simp [go_sem])
  have f4_3 : w3.cell? ⟨w2.heap.size, 4, none⟩ = some (.int .u16 dp) := (hb.cell (p := ⟨w2.heap.size, 4, none⟩) (by first | (simp; done) | (simp; omega))).trans (by simp [go_sem])
  have f5_3 : w3.cell? ⟨w2.heap.size, 5, none⟩ = some (.int .u8 q0) := (hb.cell (p := ⟨w2.heap.size, 5, none⟩) (by first | (simp; done) | (simp; omega))).trans (by simp [go_sem])
  have zf_3 : w2.heap.size < w3.heap.size := by have := hb.size; simp at this; omega
  clear hb b3 d2 k2
  go_wp2_with (first | (refine wpList_store_wide 29 (.tmp 12) (.tmp 31) rfl rfl w3.heap.size 0 (gF c1 5 ty c0 c1 c2 c3 c4 kv by') rfl rfl w.heap.size w (hi_gF c1 5 ty c0 c1 c2 c3 c4 kv by') (ho_gF c1 5 ty c0 c1 c2 c3 c4 kv by') ?_ (by omega) ?_ ?_; (· (repeat' (first | with_reducible exact d3 | refine Below.setCell ?_ (by first | omega | (simp; done) | (simp; omega)) _ | refine Below.alloc ?_ (by first | omega | (simp; done) | (simp; omega)) _))); (· (repeat (first | (refine there_new _ _ _ _ _ ?_ rfl; first | rfl | (simp; done)) | refine World.there_alloc ?_ _))); intro V d10 hzV R_10 kV tV hcV; have f0_10 : V.cell? ⟨w2.heap.size, 0, none⟩ = some (.int .u8 P) := (hcV w2.heap.size 0 (by omega)).trans (by simp [go_sem, f0_3, zf_3]); have f1_10 : V.cell? ⟨w2.heap.size, 1, none⟩ = some (.int .u32 S) := (hcV w2.heap.size 1 (by omega)).trans (by simp [go_sem, f1_3, zf_3]); have f2_10 : V.cell? ⟨w2.heap.size, 2, none⟩ = some (.int .u32 E) := (hcV w2.heap.size 2 (by omega)).trans (by simp [go_sem, f2_3, zf_3]); have f3_10 : V.cell? ⟨w2.heap.size, 3, none⟩ = some (.int .u16 sp) := (hcV w2.heap.size 3 (by omega)).trans (by simp [go_sem, f3_3, zf_3]); have f4_10 : V.cell? ⟨w2.heap.size, 4, none⟩ = some (.int .u16 dp) := (hcV w2.heap.size 4 (by omega)).trans (by simp [go_sem, f4_3, zf_3]); have f5_10 : V.cell? ⟨w2.heap.size, 5, none⟩ = some (.int .u8 q0) := (hcV w2.heap.size 5 (by omega)).trans (by simp [go_sem, f5_3, zf_3]); have zf_10 : w2.heap.size < V.heap.size := (by rw [hzV]; simp; omega); have zR_10 : w3.heap.size < V.heap.size := (by rw [hzV]; simp); clear hcV hzV kV tV) | (refine wpList_load_wide 29 _ rfl (by rfl) _ _ rfl (gF c1 5 ty c0 c1 c2 c3 c4 kv by') _ Tryd.underlying29 rfl (hi_gF c1 5 ty c0 c1 c2 c3 c4 kv by') ?_ ?_; · (repeat (first | with_reducible exact R_10 | refine World.rangeAt_alloc ?_ _))))
  have k10 : w.heap.size ≤ V.heap.size := d10.size
  have nfR : w2.heap.size < w3.heap.size := zf_3
  clear f0_3 f1_3 f2_3 f3_3 f4_3 f5_3 zf_3 d3
  refine (H5.out _ (HT.out.below (by (repeat' (first | with_reducible exact d10 | refine Below.setCell ?_ (by first | omega | (simp; done) | (simp; omega)) _ | refine Below.alloc ?_ (by first | omega | (simp; done) | (simp; omega)) _))))).mono ?_
  rintro e w11 ⟨rfl, hb⟩
  have b11 : Below V.heap.size V w11 := bthen (by (repeat' (first | exact Below.refl _ _ | refine Below.setCell ?_ (by first | omega | (simp; done) | (simp; omega)) _ | refine Below.alloc ?_ (by first | omega | (simp; done) | (simp; omega)) _))) hb
  have d11 : Below w.heap.size w w11 := bthen d10 b11
  have k11 : w.heap.size ≤ w11.heap.size := d11.size
  have R_11 : w11.rangeAt (w3.heap.size) 0 ((gF c1 5 ty c0 c1 c2 c3 c4 kv by')).toList := range_below b11 (by omega) R_10
  have zR_11 : w3.heap.size < w11.heap.size := Nat.lt_of_lt_of_le zR_10 b11.size
  have f0_11 : w11.cell? ⟨w2.heap.size, 0, none⟩ = some (.int .u8 P) := (b11.cell (p := ⟨w2.heap.size, 0, none⟩) (by show w2.heap.size < V.heap.size; omega)).trans f0_10
  have f1_11 : w11.cell? ⟨w2.heap.size, 1, none⟩ = some (.int .u32 S) := (b11.cell (p := ⟨w2.heap.size, 1, none⟩) (by show w2.heap.size < V.heap.size; omega)).trans f1_10
  have f2_11 : w11.cell? ⟨w2.heap.size, 2, none⟩ = some (.int .u32 E) := (b11.cell (p := ⟨w2.heap.size, 2, none⟩) (by show w2.heap.size < V.heap.size; omega)).trans f2_10
  have f3_11 : w11.cell? ⟨w2.heap.size, 3, none⟩ = some (.int .u16 sp) := (b11.cell (p := ⟨w2.heap.size, 3, none⟩) (by show w2.heap.size < V.heap.size; omega)).trans f3_10
  have f4_11 : w11.cell? ⟨w2.heap.size, 4, none⟩ = some (.int .u16 dp) := (b11.cell (p := ⟨w2.heap.size, 4, none⟩) (by show w2.heap.size < V.heap.size; omega)).trans f4_10
  have f5_11 : w11.cell? ⟨w2.heap.size, 5, none⟩ = some (.int .u8 q0) := (b11.cell (p := ⟨w2.heap.size, 5, none⟩) (by show w2.heap.size < V.heap.size; omega)).trans f5_10
  have zf_11 : w2.heap.size < w11.heap.size := Nat.lt_of_lt_of_le zf_10 b11.size
  clear hb b11 d10 k10 R_10 zR_10 f0_10 f1_10 f2_10 f3_10 f4_10 f5_10 zf_10
  go_wp2_with (refine wpList_load_wide 29 _ rfl (by rfl) _ _ rfl (gF c1 5 ty c0 c1 c2 c3 c4 kv by') _ Tryd.underlying29 rfl (hi_gF c1 5 ty c0 c1 c2 c3 c4 kv by') ?_ ?_; · (repeat (first | with_reducible exact R_11 | refine World.rangeAt_alloc ?_ _)))
  refine (HLk.out _ (HT.out.below (by (repeat' (first | with_reducible exact d11 | refine Below.setCell ?_ (by first | omega | (simp; done) | (simp; omega)) _ | refine Below.alloc ?_ (by first | omega | (simp; done) | (simp; omega)) _))))).mono ?_
  rintro e w12 ⟨rfl, hb⟩
  have b12 : Below w11.heap.size w11 w12 := bthen (by (repeat' (first | exact Below.refl _ _ | refine Below.setCell ?_ (by first | omega | (simp; done) | (simp; omega)) _ | refine Below.alloc ?_ (by first | omega | (simp; done) | (simp; omega)) _))) hb
  have d12 : Below w.heap.size w w12 := bthen d11 b12
  have k12 : w.heap.size ≤ w12.heap.size := d12.size
  have R_12 : w12.rangeAt (w3.heap.size) 0 ((gF c1 5 ty c0 c1 c2 c3 c4 kv by')).toList := range_below b12 (by omega) R_11
  have zR_12 : w3.heap.size < w12.heap.size := Nat.lt_of_lt_of_le zR_11 b12.size
  have f0_12 : w12.cell? ⟨w2.heap.size, 0, none⟩ = some (.int .u8 P) := (b12.cell (p := ⟨w2.heap.size, 0, none⟩) (by show w2.heap.size < w11.heap.size; omega)).trans f0_11
  have f1_12 : w12.cell? ⟨w2.heap.size, 1, none⟩ = some (.int .u32 S) := (b12.cell (p := ⟨w2.heap.size, 1, none⟩) (by show w2.heap.size < w11.heap.size; omega)).trans f1_11
  have f2_12 : w12.cell? ⟨w2.heap.size, 2, none⟩ = some (.int .u32 E) := (b12.cell (p := ⟨w2.heap.size, 2, none⟩) (by show w2.heap.size < w11.heap.size; omega)).trans f2_11
  have f3_12 : w12.cell? ⟨w2.heap.size, 3, none⟩ = some (.int .u16 sp) := (b12.cell (p := ⟨w2.heap.size, 3, none⟩) (by show w2.heap.size < w11.heap.size; omega)).trans f3_11
  have f4_12 : w12.cell? ⟨w2.heap.size, 4, none⟩ = some (.int .u16 dp) := (b12.cell (p := ⟨w2.heap.size, 4, none⟩) (by show w2.heap.size < w11.heap.size; omega)).trans f4_11
  have f5_12 : w12.cell? ⟨w2.heap.size, 5, none⟩ = some (.int .u8 q0) := (b12.cell (p := ⟨w2.heap.size, 5, none⟩) (by show w2.heap.size < w11.heap.size; omega)).trans f5_11
  have zf_12 : w2.heap.size < w12.heap.size := Nat.lt_of_lt_of_le zf_11 b12.size
  clear hb b12 d11 k11 R_11 zR_11 f0_11 f1_11 f2_11 f3_11 f4_11 f5_11 zf_11
  have g0 : w12.cell? ⟨w3.heap.size, 13, none⟩ = some (.int .u8 c0) := rcell' R_12 rfl
  have g1 : w12.cell? ⟨w3.heap.size, 14, none⟩ = some (.int .u32 c1) := rcell' R_12 rfl
  have g2 : w12.cell? ⟨w3.heap.size, 15, none⟩ = some (.int .u32 c2) := rcell' R_12 rfl
  have g3 : w12.cell? ⟨w3.heap.size, 16, none⟩ = some (.int .u16 c3) := rcell' R_12 rfl
  have g4 : w12.cell? ⟨w3.heap.size, 17, none⟩ = some (.int .u16 c4) := rcell' R_12 rfl
  have HN := fun W => key_neq c0 c1 c2 c3 c4 W
  have h1 := HQ1.out
  have h2 := HQ1'.out
  have h3 := HW.out
  have h4 := HW'.out
  go_wp2_with (first | (refine wpList_store_wide 29 (.tmp 19) (.tmp 68) rfl rfl (w12.heap.size + 1) 0 (gF c1 5 ty c0 c1 c2 c3 c4 kv by') rfl rfl w.heap.size w (hi_gF c1 5 ty c0 c1 c2 c3 c4 kv by') (ho_gF c1 5 ty c0 c1 c2 c3 c4 kv by') ?_ (by omega) ?_ ?_; (· (repeat' (first | with_reducible exact d12 | refine Below.setCell ?_ (by first | omega | (simp; done) | (simp; omega)) _ | refine Below.alloc ?_ (by first | omega | (simp; done) | (simp; omega)) _))); (· (repeat (first | (refine there_new _ _ _ _ _ ?_ rfl; first | rfl | (simp; done)) | refine World.there_alloc ?_ _))); intro V2 e2 hz2 R2 kV2 tV2 hcV2; have y0 : V2.cell? ⟨w2.heap.size, 0, none⟩ = some (.int .u8 P) := (hcV2 w2.heap.size 0 (by omega)).trans (by simp [go_sem, f0_12, zf_12]); have y1 : V2.cell? ⟨w2.heap.size, 1, none⟩ = some (.int .u32 S) := (hcV2 w2.heap.size 1 (by omega)).trans (by simp [go_sem, f1_12, zf_12]); have y2 : V2.cell? ⟨w2.heap.size, 2, none⟩ = some (.int .u32 E) := (hcV2 w2.heap.size 2 (by omega)).trans (by simp [go_sem, f2_12, zf_12]); have y3 : V2.cell? ⟨w2.heap.size, 3, none⟩ = some (.int .u16 sp) := (hcV2 w2.heap.size 3 (by omega)).trans (by simp [go_sem, f3_12, zf_12]); have y4 : V2.cell? ⟨w2.heap.size, 4, none⟩ = some (.int .u16 dp) := (hcV2 w2.heap.size 4 (by omega)).trans (by simp [go_sem, f4_12, zf_12]); have y5 : V2.cell? ⟨w2.heap.size, 5, none⟩ = some (.int .u8 q0) := (hcV2 w2.heap.size 5 (by omega)).trans (by simp [go_sem, f5_12, zf_12]); have zy : w2.heap.size < V2.heap.size := (by rw [hz2]; simp; omega); have zb : w12.heap.size + 1 < V2.heap.size := (by rw [hz2]; simp); have cj := rcell' (j := 13) R2 rfl; have fj := tfree (tV2 (w12.heap.size + 1) 0 19 (by (repeat (first | (refine there_new _ _ _ _ _ ?_ rfl; first | rfl | (simp; done)) | refine World.there_alloc ?_ _)))) 13 (by decide); have R3 : (V2.setCell ⟨(w12.heap.size + 1), 13, none⟩ (.int .u8 47)).rangeAt (w12.heap.size + 1) 0 (gF c1 5 ty 47 c1 c2 c3 c4 kv by').toList := range_put R2 13 (.int .u8 47) fj; have e3 := e2.setCell (p := ⟨(w12.heap.size + 1), 13, none⟩) (by show w.heap.size ≤ w12.heap.size + 1; omega) (.int .u8 47); have ny : w2.heap.size ≠ w12.heap.size + 1 := (by omega); have ny' : w12.heap.size + 1 ≠ w2.heap.size := (by omega); clear hcV2 kV2 tV2 hz2) | (refine wpList_load_wide 29 _ rfl (by rfl) _ _ rfl (gF c1 5 ty c0 c1 c2 c3 c4 kv by') _ Tryd.underlying29 rfl (hi_gF c1 5 ty c0 c1 c2 c3 c4 kv by') ?_ ?_; · (repeat (first | with_reducible exact R_12 | refine World.rangeAt_alloc ?_ _))) | (refine wpList_load_wide 29 _ rfl (by rfl) _ _ rfl (gF c1 5 ty 47 c1 c2 c3 c4 kv by') _ Tryd.underlying29 rfl (hi_gF c1 5 ty 47 c1 c2 c3 c4 kv by') ?_ ?_; · (repeat (first | with_reducible exact R3 | refine World.rangeAt_alloc ?_ _))))
  refine (H8.out _ (HT.out.below (by (repeat' (first | with_reducible exact e3 | refine Below.setCell ?_ (by first | omega | (simp; done) | (simp; omega)) _ | refine Below.alloc ?_ (by first | omega | (simp; done) | (simp; omega)) _))))).mono ?_
  rintro e w13 ⟨rfl, hb⟩
  have b13 := bthen e3 hb
  clear hb
  go_wp2_with fail
  go_ret
  exact ⟨rfl, b13⟩

end Go.Proofs.YtapeminpgojeaaaDoor
