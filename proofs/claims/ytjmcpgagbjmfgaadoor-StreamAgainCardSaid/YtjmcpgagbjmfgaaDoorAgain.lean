/-
  The walk of StreamAgain: whoever opens a flow can send the same packet again; a packet that is allowed is allowed again and changes nothing more; what is not allowed before is not allowed after it.
-/
import Derived.Test.YtjmcpgagbjmfgaaDoorSeen
import Derived.Test.YtjmcpgagbjmfgaaDoorAwake
import Derived.Test.YtjmcpgagbjmfgaaDoorWrong
import Derived.Test.YtjmcpgagbjmfgaaDoorInv
namespace Go.Proofs.YtjmcpgagbjmfgaaDoor
open Go.RowKit
set_option linter.unusedVariables false
set_option linter.unusedSimpArgs false

/-- A flow in a state that there is, else whatever its state, allows the same. -/
theorem alw_s (k s s' t d kd ty : Int) (h : s = 1 ∨ s = 2) (h' : s' = 1 ∨ s' = 2) : alw k s t d kd ty = alw k s' t d kd ty := by
  have e : rt k s t = rt k s' t := by
    unfold rt
    rcases h with rfl | rfl <;> rcases h' with rfl | rfl <;> rfl
  unfold alw
  rw [e]
theorem again_first {K T X : Int} (h : opens K T = true) (hX : typOf K T = X) : alw K 1 X 0 K T = true ∧ stF K 1 X 0 K T = (K, 1, X) := by
  have hr := rt_open h
  rw [hX] at hr
  have ha : alw K 1 X 0 K T = true := by
    simp only [alw, hr, Bool.true_and]
    simp [opens] at h
    rcases h with rfl | ⟨rfl, h⟩
    · rfl
    · simp [allowsQ, ← hX, typOf]
  exact ⟨ha, by rw [stF, ha]; rfl⟩
theorem again_st {K X D k2 t2 : Int} (h : alw K 1 X D k2 t2 = true) : stF K 1 X D k2 t2 = (K, (if D = 1 then 2 else 1), X) ∧ alw K (if D = 1 then 2 else 1) X D k2 t2 = true ∧ stF K (if D = 1 then 2 else 1) X D k2 t2 = (K, (if D = 1 then 2 else 1), X) := by
  have h2 : alw K (if D = 1 then 2 else 1) X D k2 t2 = true := by
    rw [← h]
    exact alw_s _ _ _ _ _ _ _ (by split <;> simp) (.inl rfl)
  refine ⟨by rw [stF, h]; rfl, h2, ?_⟩
  rw [stF, h2]
  by_cases hD : D = 1 <;> simp [hD]
structure AgR (w1 : World) (a1 a2 a3 : Value) (S1 S2 S3 : Array Value) (D : Nat → Prop) (v7 v8 v9 v23 v24 v25 v26 v27 v28 : Value) (w' : World) : Prop where
  b : Below w1.heap.size w1 w'
  e0 : D 0 → v23 = a1
  e1 : D 1 → v24 = .agg S1
  e2 : D 2 → v25 = a2
  e3 : D 3 → v26 = .agg S2
  e4 : D 4 → v27 = a3
  e5 : D 5 → v28 = .agg S3
  m6 : D 6 → Made w1.heap.size 20 v7 w'
  m7 : D 7 → Made w1.heap.size 20 v8 w'
  m8 : D 8 → Made w1.heap.size 20 v9 w'
  n6_7 : D 6 → D 7 → v7 ≠ v8
  n6_8 : D 6 → D 8 → v7 ≠ v9
  n7_8 : D 7 → D 8 → v8 ≠ v9
theorem AgR.s0 {w1 : World} {a1 a2 a3 : Value} {S1 S2 S3 : Array Value} {D : Nat → Prop} {v7 v8 v9 v23 v24 v25 v26 v27 v28 : Value} {w' w'' : World} (h : AgR w1 a1 a2 a3 S1 S2 S3 D v7 v8 v9 v23 v24 v25 v26 v27 v28 w') (hb : Below w'.heap.size w' w'') : AgR w1 a1 a2 a3 S1 S2 S3 (fun j => D j ∨ j = 0) v7 v8 v9 (a1) v24 v25 v26 v27 v28 w'' :=
  ⟨bthen h.b hb, fun _ => rfl, or_keep h.e1 (by decide), or_keep h.e2 (by decide), or_keep h.e3 (by decide), or_keep h.e4 (by decide), or_keep h.e5 (by decide), or_keep (fun hd => (h.m6 hd).below hb) (by decide), or_keep (fun hd => (h.m7 hd).below hb) (by decide), or_keep (fun hd => (h.m8 hd).below hb) (by decide), or_keep2 h.n6_7 (by decide) (by decide), or_keep2 h.n6_8 (by decide) (by decide), or_keep2 h.n7_8 (by decide) (by decide)⟩
theorem AgR.s1 {w1 : World} {a1 a2 a3 : Value} {S1 S2 S3 : Array Value} {D : Nat → Prop} {v7 v8 v9 v23 v24 v25 v26 v27 v28 : Value} {w' w'' : World} (h : AgR w1 a1 a2 a3 S1 S2 S3 D v7 v8 v9 v23 v24 v25 v26 v27 v28 w') (hb : Below w'.heap.size w' w'') : AgR w1 a1 a2 a3 S1 S2 S3 (fun j => D j ∨ j = 1) v7 v8 v9 v23 (.agg S1) v25 v26 v27 v28 w'' :=
  ⟨bthen h.b hb, or_keep h.e0 (by decide), fun _ => rfl, or_keep h.e2 (by decide), or_keep h.e3 (by decide), or_keep h.e4 (by decide), or_keep h.e5 (by decide), or_keep (fun hd => (h.m6 hd).below hb) (by decide), or_keep (fun hd => (h.m7 hd).below hb) (by decide), or_keep (fun hd => (h.m8 hd).below hb) (by decide), or_keep2 h.n6_7 (by decide) (by decide), or_keep2 h.n6_8 (by decide) (by decide), or_keep2 h.n7_8 (by decide) (by decide)⟩
theorem AgR.s2 {w1 : World} {a1 a2 a3 : Value} {S1 S2 S3 : Array Value} {D : Nat → Prop} {v7 v8 v9 v23 v24 v25 v26 v27 v28 : Value} {w' w'' : World} (h : AgR w1 a1 a2 a3 S1 S2 S3 D v7 v8 v9 v23 v24 v25 v26 v27 v28 w') (hb : Below w'.heap.size w' w'') : AgR w1 a1 a2 a3 S1 S2 S3 (fun j => D j ∨ j = 2) v7 v8 v9 v23 v24 (a2) v26 v27 v28 w'' :=
  ⟨bthen h.b hb, or_keep h.e0 (by decide), or_keep h.e1 (by decide), fun _ => rfl, or_keep h.e3 (by decide), or_keep h.e4 (by decide), or_keep h.e5 (by decide), or_keep (fun hd => (h.m6 hd).below hb) (by decide), or_keep (fun hd => (h.m7 hd).below hb) (by decide), or_keep (fun hd => (h.m8 hd).below hb) (by decide), or_keep2 h.n6_7 (by decide) (by decide), or_keep2 h.n6_8 (by decide) (by decide), or_keep2 h.n7_8 (by decide) (by decide)⟩
theorem AgR.s3 {w1 : World} {a1 a2 a3 : Value} {S1 S2 S3 : Array Value} {D : Nat → Prop} {v7 v8 v9 v23 v24 v25 v26 v27 v28 : Value} {w' w'' : World} (h : AgR w1 a1 a2 a3 S1 S2 S3 D v7 v8 v9 v23 v24 v25 v26 v27 v28 w') (hb : Below w'.heap.size w' w'') : AgR w1 a1 a2 a3 S1 S2 S3 (fun j => D j ∨ j = 3) v7 v8 v9 v23 v24 v25 (.agg S2) v27 v28 w'' :=
  ⟨bthen h.b hb, or_keep h.e0 (by decide), or_keep h.e1 (by decide), or_keep h.e2 (by decide), fun _ => rfl, or_keep h.e4 (by decide), or_keep h.e5 (by decide), or_keep (fun hd => (h.m6 hd).below hb) (by decide), or_keep (fun hd => (h.m7 hd).below hb) (by decide), or_keep (fun hd => (h.m8 hd).below hb) (by decide), or_keep2 h.n6_7 (by decide) (by decide), or_keep2 h.n6_8 (by decide) (by decide), or_keep2 h.n7_8 (by decide) (by decide)⟩
theorem AgR.s4 {w1 : World} {a1 a2 a3 : Value} {S1 S2 S3 : Array Value} {D : Nat → Prop} {v7 v8 v9 v23 v24 v25 v26 v27 v28 : Value} {w' w'' : World} (h : AgR w1 a1 a2 a3 S1 S2 S3 D v7 v8 v9 v23 v24 v25 v26 v27 v28 w') (hb : Below w'.heap.size w' w'') : AgR w1 a1 a2 a3 S1 S2 S3 (fun j => D j ∨ j = 4) v7 v8 v9 v23 v24 v25 v26 (a3) v28 w'' :=
  ⟨bthen h.b hb, or_keep h.e0 (by decide), or_keep h.e1 (by decide), or_keep h.e2 (by decide), or_keep h.e3 (by decide), fun _ => rfl, or_keep h.e5 (by decide), or_keep (fun hd => (h.m6 hd).below hb) (by decide), or_keep (fun hd => (h.m7 hd).below hb) (by decide), or_keep (fun hd => (h.m8 hd).below hb) (by decide), or_keep2 h.n6_7 (by decide) (by decide), or_keep2 h.n6_8 (by decide) (by decide), or_keep2 h.n7_8 (by decide) (by decide)⟩
theorem AgR.s5 {w1 : World} {a1 a2 a3 : Value} {S1 S2 S3 : Array Value} {D : Nat → Prop} {v7 v8 v9 v23 v24 v25 v26 v27 v28 : Value} {w' w'' : World} (h : AgR w1 a1 a2 a3 S1 S2 S3 D v7 v8 v9 v23 v24 v25 v26 v27 v28 w') (hb : Below w'.heap.size w' w'') : AgR w1 a1 a2 a3 S1 S2 S3 (fun j => D j ∨ j = 5) v7 v8 v9 v23 v24 v25 v26 v27 (.agg S3) w'' :=
  ⟨bthen h.b hb, or_keep h.e0 (by decide), or_keep h.e1 (by decide), or_keep h.e2 (by decide), or_keep h.e3 (by decide), or_keep h.e4 (by decide), fun _ => rfl, or_keep (fun hd => (h.m6 hd).below hb) (by decide), or_keep (fun hd => (h.m7 hd).below hb) (by decide), or_keep (fun hd => (h.m8 hd).below hb) (by decide), or_keep2 h.n6_7 (by decide) (by decide), or_keep2 h.n6_8 (by decide) (by decide), or_keep2 h.n7_8 (by decide) (by decide)⟩
theorem AgR.s6 {w1 : World} {a1 a2 a3 : Value} {S1 S2 S3 : Array Value} {D : Nat → Prop} {v7 v8 v9 v23 v24 v25 v26 v27 v28 : Value} {w' w'' : World} (h : AgR w1 a1 a2 a3 S1 S2 S3 D v7 v8 v9 v23 v24 v25 v26 v27 v28 w') (hb : Below w'.heap.size w' w'') (hm : Made w1.heap.size 20 (.pointer (some ⟨w'.heap.size, 0, none⟩)) w'') : AgR w1 a1 a2 a3 S1 S2 S3 (fun j => D j ∨ j = 6) ((.pointer (some ⟨w'.heap.size, 0, none⟩))) v8 v9 v23 v24 v25 v26 v27 v28 w'' :=
  ⟨bthen h.b hb, or_keep h.e0 (by decide), or_keep h.e1 (by decide), or_keep h.e2 (by decide), or_keep h.e3 (by decide), or_keep h.e4 (by decide), or_keep h.e5 (by decide), fun _ => hm, or_keep (fun hd => (h.m7 hd).below hb) (by decide), or_keep (fun hd => (h.m8 hd).below hb) (by decide), fun _ hd => ((h.m7 (hd.resolve_right (by decide))).ne).symm, fun _ hd => ((h.m8 (hd.resolve_right (by decide))).ne).symm, or_keep2 h.n7_8 (by decide) (by decide)⟩
theorem AgR.s7 {w1 : World} {a1 a2 a3 : Value} {S1 S2 S3 : Array Value} {D : Nat → Prop} {v7 v8 v9 v23 v24 v25 v26 v27 v28 : Value} {w' w'' : World} (h : AgR w1 a1 a2 a3 S1 S2 S3 D v7 v8 v9 v23 v24 v25 v26 v27 v28 w') (hb : Below w'.heap.size w' w'') (hm : Made w1.heap.size 20 (.pointer (some ⟨w'.heap.size, 0, none⟩)) w'') : AgR w1 a1 a2 a3 S1 S2 S3 (fun j => D j ∨ j = 7) v7 ((.pointer (some ⟨w'.heap.size, 0, none⟩))) v9 v23 v24 v25 v26 v27 v28 w'' :=
  ⟨bthen h.b hb, or_keep h.e0 (by decide), or_keep h.e1 (by decide), or_keep h.e2 (by decide), or_keep h.e3 (by decide), or_keep h.e4 (by decide), or_keep h.e5 (by decide), or_keep (fun hd => (h.m6 hd).below hb) (by decide), fun _ => hm, or_keep (fun hd => (h.m8 hd).below hb) (by decide), fun hd _ => (h.m6 (hd.resolve_right (by decide))).ne, or_keep2 h.n6_8 (by decide) (by decide), fun _ hd => ((h.m8 (hd.resolve_right (by decide))).ne).symm⟩
theorem AgR.s8 {w1 : World} {a1 a2 a3 : Value} {S1 S2 S3 : Array Value} {D : Nat → Prop} {v7 v8 v9 v23 v24 v25 v26 v27 v28 : Value} {w' w'' : World} (h : AgR w1 a1 a2 a3 S1 S2 S3 D v7 v8 v9 v23 v24 v25 v26 v27 v28 w') (hb : Below w'.heap.size w' w'') (hm : Made w1.heap.size 20 (.pointer (some ⟨w'.heap.size, 0, none⟩)) w'') : AgR w1 a1 a2 a3 S1 S2 S3 (fun j => D j ∨ j = 8) v7 v8 ((.pointer (some ⟨w'.heap.size, 0, none⟩))) v23 v24 v25 v26 v27 v28 w'' :=
  ⟨bthen h.b hb, or_keep h.e0 (by decide), or_keep h.e1 (by decide), or_keep h.e2 (by decide), or_keep h.e3 (by decide), or_keep h.e4 (by decide), or_keep h.e5 (by decide), or_keep (fun hd => (h.m6 hd).below hb) (by decide), or_keep (fun hd => (h.m7 hd).below hb) (by decide), fun _ => hm, or_keep2 h.n6_7 (by decide) (by decide), fun hd _ => (h.m6 (hd.resolve_right (by decide))).ne, fun hd _ => (h.m7 (hd.resolve_right (by decide))).ne⟩
theorem AgR.zero (w1 : World) (a1 a2 a3 : Value) (S1 S2 S3 : Array Value) (v7 v8 v9 v23 v24 v25 v26 v27 v28 : Value) : AgR w1 a1 a2 a3 S1 S2 S3 (fun _ => False) v7 v8 v9 v23 v24 v25 v26 v27 v28 w1.drew :=
  ⟨(Below.refl _ _).drew, fun h => h.elim, fun h => h.elim, fun h => h.elim, fun h => h.elim, fun h => h.elim, fun h => h.elim, fun h => h.elim, fun h => h.elim, fun h => h.elim, fun h => h.elim, fun h => h.elim, fun h => h.elim⟩
theorem open_any0 (d : Int) (F : List Value) (W : World) (b : Nat) (h : W.rangeAt b 0 (Value.int .u8 d :: F).toArray.toList) : W.cell? ⟨b, 0, none⟩ = some (.int .u8 d) ∧ W.rangeAt b 1 F.toArray.toList := by
  simpa using open_wide d F W b (by simpa using h)

set_option maxRecDepth 100000 in
set_option maxHeartbeats 4000000 in
theorem again_noopen (d1 k1 t1 d2 k2 t2 d3 k3 t3 : Int) (D1 K1 T1 D2 K2 T2 D3 K3 T3 : Int) (F1 F2 F3 : List Value) (S1 S2 S3 : Array Value) (w : World) (HA : Hid (Ans w))
    (HS1 : Hid (∀ w, Calls Tryd.prog 12 #[.agg #[.int .u8 d1, .int .u8 k1, .int .u8 t1]] w fun e w' => e = .returned (.agg S1) ∧ Below w.heap.size w w')) (HSV1 : Hid ((Value.int .u8 D1 :: F1).toArray = S1)) (HFa1 : Hid (Fa F1.toArray K1 T1)) (H201 : Hid (S1.size = 20)) (Ho1 : Hid (S1.all (·.oneCell') = true)) (hD1 : 0 ≤ D1 ∧ D1 ≤ 255) (hK1 : 0 ≤ K1 ∧ K1 ≤ 255) (hT1 : 0 ≤ T1 ∧ T1 ≤ 255)
    (HS2 : Hid (∀ w, Calls Tryd.prog 12 #[.agg #[.int .u8 d2, .int .u8 k2, .int .u8 t2]] w fun e w' => e = .returned (.agg S2) ∧ Below w.heap.size w w')) (HSV2 : Hid ((Value.int .u8 D2 :: F2).toArray = S2)) (HFa2 : Hid (Fa F2.toArray K2 T2)) (H202 : Hid (S2.size = 20)) (Ho2 : Hid (S2.all (·.oneCell') = true)) (hD2 : 0 ≤ D2 ∧ D2 ≤ 255) (hK2 : 0 ≤ K2 ∧ K2 ≤ 255) (hT2 : 0 ≤ T2 ∧ T2 ≤ 255)
    (HS3 : Hid (∀ w, Calls Tryd.prog 12 #[.agg #[.int .u8 d3, .int .u8 k3, .int .u8 t3]] w fun e w' => e = .returned (.agg S3) ∧ Below w.heap.size w w')) (HSV3 : Hid ((Value.int .u8 D3 :: F3).toArray = S3)) (HFa3 : Hid (Fa F3.toArray K3 T3)) (H203 : Hid (S3.size = 20)) (Ho3 : Hid (S3.all (·.oneCell') = true)) (hD3 : 0 ≤ D3 ∧ D3 ≤ 255) (hK3 : 0 ≤ K3 ∧ K3 ≤ 255) (hT3 : 0 ≤ T3 ∧ T3 ≤ 255)
    (ho : Hid (opens K1 T1 = false)) :
    Calls Tryd.prog 4 #[.agg #[.int .u8 d1, .int .u8 k1, .int .u8 t1], .agg #[.int .u8 d2, .int .u8 k2, .int .u8 t2], .agg #[.int .u8 d3, .int .u8 k3, .int .u8 t3]] w fun e w' => e = .returned (.bool true) ∧ Below w.heap.size w w' := by
  have HI1 : Hid ((Tryd.prog.info? 35).map (·.size) = some S1.size) := by rw [H201.out]; exact info35
  have HJ1 := Lib.hid HFa1.out.hi
  have HI2 : Hid ((Tryd.prog.info? 35).map (·.size) = some S2.size) := by rw [H202.out]; exact info35
  have HJ2 := Lib.hid HFa2.out.hi
  have HI3 : Hid ((Tryd.prog.info? 35).map (·.size) = some S3.size) := by rw [H203.out]; exact info35
  have HJ3 := Lib.hid HFa3.out.hi
  go_enter Tryd.func4, Tryd.ntmps4
  go_wp2_with fail
  refine (awake_any _ (HA.out.below (by (repeat' (first | exact Below.refl _ _ | refine Below.setCell ?_ (by first | omega | (simp; done) | (simp; omega)) _ | refine Below.alloc ?_ (by first | omega | (simp; done) | (simp; omega)) _))))).mono ?_
  rintro e w1 ⟨rfl, hb⟩
  have hb1 : Below w.heap.size w w1 := bthen (by (repeat' (first | exact Below.refl _ _ | refine Below.setCell ?_ (by first | omega | (simp; done) | (simp; omega)) _ | refine Below.alloc ?_ (by first | omega | (simp; done) | (simp; omega)) _))) hb
  have p10 : w1.cell? ⟨w.heap.size, 0, none⟩ = some (.int .u8 d1) := (hb.cell (p := ⟨w.heap.size, 0, none⟩) (by first | (simp; done) | (simp; omega))).trans (by simp [go_sem])
  have p11 : w1.cell? ⟨w.heap.size, 1, none⟩ = some (.int .u8 k1) := (hb.cell (p := ⟨w.heap.size, 1, none⟩) (by first | (simp; done) | (simp; omega))).trans (by simp [go_sem])
  have p12 : w1.cell? ⟨w.heap.size, 2, none⟩ = some (.int .u8 t1) := (hb.cell (p := ⟨w.heap.size, 2, none⟩) (by first | (simp; done) | (simp; omega))).trans (by simp [go_sem])
  have p20 : w1.cell? ⟨w.heap.size + 1, 0, none⟩ = some (.int .u8 d2) := (hb.cell (p := ⟨w.heap.size + 1, 0, none⟩) (by first | (simp; done) | (simp; omega))).trans (by simp [go_sem])
  have p21 : w1.cell? ⟨w.heap.size + 1, 1, none⟩ = some (.int .u8 k2) := (hb.cell (p := ⟨w.heap.size + 1, 1, none⟩) (by first | (simp; done) | (simp; omega))).trans (by simp [go_sem])
  have p22 : w1.cell? ⟨w.heap.size + 1, 2, none⟩ = some (.int .u8 t2) := (hb.cell (p := ⟨w.heap.size + 1, 2, none⟩) (by first | (simp; done) | (simp; omega))).trans (by simp [go_sem])
  have p30 : w1.cell? ⟨w.heap.size + 1 + 1, 0, none⟩ = some (.int .u8 d3) := (hb.cell (p := ⟨w.heap.size + 1 + 1, 0, none⟩) (by first | (simp; done) | (simp; omega))).trans (by simp [go_sem])
  have p31 : w1.cell? ⟨w.heap.size + 1 + 1, 1, none⟩ = some (.int .u8 k3) := (hb.cell (p := ⟨w.heap.size + 1 + 1, 1, none⟩) (by first | (simp; done) | (simp; omega))).trans (by simp [go_sem])
  have p32 : w1.cell? ⟨w.heap.size + 1 + 1, 2, none⟩ = some (.int .u8 t3) := (hb.cell (p := ⟨w.heap.size + 1 + 1, 2, none⟩) (by first | (simp; done) | (simp; omega))).trans (by simp [go_sem])
  clear hb
  go_wp2_with fail
  refine wp_region_steps 9 [[], [0], [], [2], [], [4]] (fun D a w' => ∃ v7 v8 v9 v23 v24 v25 v26 v27 v28 : Value, a = ⟨#[.agg #[.int .u8 d1, .int .u8 k1, .int .u8 t1], .agg #[.int .u8 d2, .int .u8 k2, .int .u8 t2], .agg #[.int .u8 d3, .int .u8 k3, .int .u8 t3], .pointer (some ⟨w.heap.size, 0, none⟩), .pointer (some ⟨w.heap.size + 1, 0, none⟩), .pointer (some ⟨w.heap.size + 1 + 1, 0, none⟩), .bool false, v7, v8, v9, undef, undef, undef, undef, undef, undef, undef, undef, undef, undef, undef, .bool true, .bool false, v23, v24, v25, v26, v27, v28, undef, undef, undef, undef, undef, undef, undef, undef, undef, undef, undef, undef, undef, undef, undef, undef, undef, undef, undef, undef, undef, undef, undef, undef, undef, undef, undef, undef, undef, undef, undef, undef, undef, undef, undef, undef, undef, undef, undef, undef, undef, undef, undef, undef, undef, undef, undef, undef, undef, undef, undef, undef, undef, undef, undef, undef, undef, undef, undef, undef, undef, undef, undef, undef, undef, undef, undef, undef, undef, undef, undef], []⟩ ∧ AgR w1 (.agg #[.int .u8 d1, .int .u8 k1, .int .u8 t1]) (.agg #[.int .u8 d2, .int .u8 k2, .int .u8 t2]) (.agg #[.int .u8 d3, .int .u8 k3, .int .u8 t3]) S1 S2 S3 D v7 v8 v9 v23 v24 v25 v26 v27 v28 w') (by kernel_rfl) (by kernel_rfl) ⟨undef, undef, undef, undef, undef, undef, undef, undef, undef, rfl, AgR.zero w1 (.agg #[.int .u8 d1, .int .u8 k1, .int .u8 t1]) (.agg #[.int .u8 d2, .int .u8 k2, .int .u8 t2]) (.agg #[.int .u8 d3, .int .u8 k3, .int .u8 t3]) S1 S2 S3 (undef) (undef) (undef) (undef) (undef) (undef) (undef) (undef) (undef)⟩ ?_ ?_
  · simp only [List.take_succ_cons, List.take_zero]
    refine ⟨?_, ?_, ?_, ?_, ?_, ?_, ?_, ?_, ?_, trivial⟩
    · intro D a w' hn hp hI
      obtain ⟨v7, v8, v9, v23, v24, v25, v26, v27, v28, rfl, hR⟩ := hI
      have c0 := kc hR.b p10
      have c1 := kc hR.b p11
      have c2 := kc hR.b p12
      clear hn hp
      go_wp2_with fail
      exact ⟨_, _, _, _, _, _, _, _, _, rfl, hR.s0 (Below.refl _ _)⟩
    · intro D a w' hn hp hI
      obtain ⟨v7, v8, v9, v23, v24, v25, v26, v27, v28, rfl, hR⟩ := hI
      obtain rfl := hR.e0 hp.1
      clear hn hp
      go_wp2_with fail
      refine (HS1.out _).mono ?_
      rintro e w'' ⟨rfl, hb⟩
      go_wp2_with fail
      exact ⟨_, _, _, _, _, _, _, _, _, rfl, hR.s1 hb⟩
    · intro D a w' hn hp hI
      obtain ⟨v7, v8, v9, v23, v24, v25, v26, v27, v28, rfl, hR⟩ := hI
      have c0 := kc hR.b p20
      have c1 := kc hR.b p21
      have c2 := kc hR.b p22
      clear hn hp
      go_wp2_with fail
      exact ⟨_, _, _, _, _, _, _, _, _, rfl, hR.s2 (Below.refl _ _)⟩
    · intro D a w' hn hp hI
      obtain ⟨v7, v8, v9, v23, v24, v25, v26, v27, v28, rfl, hR⟩ := hI
      obtain rfl := hR.e2 hp.1
      clear hn hp
      go_wp2_with fail
      refine (HS2.out _).mono ?_
      rintro e w'' ⟨rfl, hb⟩
      go_wp2_with fail
      exact ⟨_, _, _, _, _, _, _, _, _, rfl, hR.s3 hb⟩
    · intro D a w' hn hp hI
      obtain ⟨v7, v8, v9, v23, v24, v25, v26, v27, v28, rfl, hR⟩ := hI
      have c0 := kc hR.b p30
      have c1 := kc hR.b p31
      have c2 := kc hR.b p32
      clear hn hp
      go_wp2_with fail
      exact ⟨_, _, _, _, _, _, _, _, _, rfl, hR.s4 (Below.refl _ _)⟩
    · intro D a w' hn hp hI
      obtain ⟨v7, v8, v9, v23, v24, v25, v26, v27, v28, rfl, hR⟩ := hI
      obtain rfl := hR.e4 hp.1
      clear hn hp
      go_wp2_with fail
      refine (HS3.out _).mono ?_
      rintro e w'' ⟨rfl, hb⟩
      go_wp2_with fail
      exact ⟨_, _, _, _, _, _, _, _, _, rfl, hR.s5 hb⟩
    · intro D a w' hn hp hI
      obtain ⟨v7, v8, v9, v23, v24, v25, v26, v27, v28, rfl, hR⟩ := hI
      clear hn hp
      go_wp2_with fail
      exact ⟨_, _, _, _, _, _, _, _, _, rfl, hR.s6 ((Below.refl _ _).alloc (Nat.le_refl _) _) ⟨_, rfl, hR.b.size, there_new _ _ _ _ _ rfl rfl⟩⟩
    · intro D a w' hn hp hI
      obtain ⟨v7, v8, v9, v23, v24, v25, v26, v27, v28, rfl, hR⟩ := hI
      clear hn hp
      go_wp2_with fail
      exact ⟨_, _, _, _, _, _, _, _, _, rfl, hR.s7 ((Below.refl _ _).alloc (Nat.le_refl _) _) ⟨_, rfl, hR.b.size, there_new _ _ _ _ _ rfl rfl⟩⟩
    · intro D a w' hn hp hI
      obtain ⟨v7, v8, v9, v23, v24, v25, v26, v27, v28, rfl, hR⟩ := hI
      clear hn hp
      go_wp2_with fail
      exact ⟨_, _, _, _, _, _, _, _, _, rfl, hR.s8 ((Below.refl _ _).alloc (Nat.le_refl _) _) ⟨_, rfl, hR.b.size, there_new _ _ _ _ _ rfl rfl⟩⟩
  intro D a w' hD hI
  obtain ⟨v7, v8, v9, v23, v24, v25, v26, v27, v28, rfl, hR⟩ := hI
  obtain rfl := hR.e1 (hD 1 (by decide))
  obtain rfl := hR.e3 (hD 3 (by decide))
  obtain rfl := hR.e5 (hD 5 (by decide))
  obtain ⟨b7, rfl, l7, t7⟩ := hR.m6 (hD 6 (by decide))
  obtain ⟨b8, rfl, l8, t8⟩ := hR.m7 (hD 7 (by decide))
  obtain ⟨b9, rfl, l9, t9⟩ := hR.m8 (hD 8 (by decide))
  have n1 : b7 ≠ b8 := fun e => hR.n6_7 (hD 6 (by decide)) (hD 7 (by decide)) (by rw [e])
  have n2 : b7 ≠ b9 := fun e => hR.n6_8 (hD 6 (by decide)) (hD 8 (by decide)) (by rw [e])
  have n3 : b8 ≠ b9 := fun e => hR.n7_8 (hD 7 (by decide)) (hD 8 (by decide)) (by rw [e])
  have q0 : Below w.heap.size w w' := bthen hb1 hR.b
  have l := hb1.size
  obtain rfl := hR.e0 (hD 0 (by decide))
  obtain rfl := hR.e2 (hD 2 (by decide))
  obtain rfl := hR.e4 (hD 4 (by decide))
  clear hD hR p10 p11 p12 p20 p21 p22 p30 p31 p32 hb1
  simp only [List.drop_succ_cons, List.drop_zero]
  refine wpList_store_wide 35 (.tmp 7) (.tmp 24) rfl rfl b7 0 S1 rfl rfl w.heap.size w HI1.out Ho1.out q0 (by omega) (by rw [H201.out]; exact t7) ?_
  intro u1 q1 _ r1 _ y1 _
  refine wpList_store_wide 35 (.tmp 8) (.tmp 26) rfl rfl b8 0 S2 rfl rfl w.heap.size w HI2.out Ho2.out q1 (by omega) (by rw [H202.out]; exact y1 _ _ _ t8) ?_
  intro u2 q2 _ r2 x2 y2 _
  refine wpList_store_wide 35 (.tmp 9) (.tmp 28) rfl rfl b9 0 S3 rfl rfl w.heap.size w HI3.out Ho3.out q2 (by omega) (by rw [H203.out]; exact y2 _ _ _ (y1 _ _ _ t9)) ?_
  intro V d0 _ r3 x3 _ _
  have g1 := x3 _ _ _ n2 (x2 _ _ _ n1 r1)
  have g2 := x3 _ _ _ n3 r2
  rw [← HSV1.out] at g1
  rw [← HSV2.out] at g2
  rw [← HSV3.out] at r3
  obtain ⟨f0_0, rf_0⟩ := open_any0 _ _ _ _ g1
  obtain ⟨g0_0, rg_0⟩ := open_any0 _ _ _ _ g2
  obtain ⟨h0_0, rh_0⟩ := open_any0 _ _ _ _ r3
  have zf_0 := cell_lt f0_0
  have zrf_0 := zf_0
  have zg_0 := cell_lt g0_0
  have zrg_0 := zg_0
  have zh_0 := cell_lt h0_0
  have zrh_0 := zh_0
  have k0 : w.heap.size ≤ V.heap.size := d0.size
  clear q0 q1 q2 t7 t8 t9 l7 l8 l9 n1 n2 n3 y1 y2 x2 x3 r1 r2 r3 g1 g2 l
  clear f0_0 zf_0
  go_wp2_with (refine wpList_load_wide 29 _ rfl (by rfl) _ _ rfl F1.toArray _ Tryd.underlying29 rfl HJ1.out ?_ ?_; · (repeat (first | with_reducible exact rf_0 | refine World.rangeAt_alloc ?_ _)))
  refine (open_is F1.toArray K1 T1 (0, 0, 0) false _ HFa1.out (HA.out.below (by (repeat' (first | with_reducible exact d0 | refine Below.setCell ?_ (by first | omega | (simp; done) | (simp; omega)) _ | refine Below.alloc ?_ (by first | omega | (simp; done) | (simp; omega)) _)))) (by rw [opn, ho.out]; rfl) ho.out).mono ?_
  rintro e w1 ⟨rfl, hb⟩
  have b1 : Below V.heap.size V w1 := bthen (by (repeat' (first | exact Below.refl _ _ | refine Below.setCell ?_ (by first | omega | (simp; done) | (simp; omega)) _ | refine Below.alloc ?_ (by first | omega | (simp; done) | (simp; omega)) _))) hb
  have d1 : Below w.heap.size w w1 := bthen d0 b1
  have k1 : w.heap.size ≤ w1.heap.size := d1.size
  have rf_1 : w1.rangeAt (b7) 1 (F1.toArray).toList := range_below b1 (by omega) rf_0
  have zrf_1 : b7 < w1.heap.size := Nat.lt_of_lt_of_le zrf_0 b1.size
  have rg_1 : w1.rangeAt (b8) 1 (F2.toArray).toList := range_below b1 (by omega) rg_0
  have zrg_1 : b8 < w1.heap.size := Nat.lt_of_lt_of_le zrg_0 b1.size
  have rh_1 : w1.rangeAt (b9) 1 (F3.toArray).toList := range_below b1 (by omega) rh_0
  have zrh_1 : b9 < w1.heap.size := Nat.lt_of_lt_of_le zrh_0 b1.size
  have g0_1 : w1.cell? ⟨b8, 0, none⟩ = some (.int .u8 D2) := (b1.cell (p := ⟨b8, 0, none⟩) (by show b8 < V.heap.size; omega)).trans g0_0
  have zg_1 : b8 < w1.heap.size := Nat.lt_of_lt_of_le zg_0 b1.size
  have h0_1 : w1.cell? ⟨b9, 0, none⟩ = some (.int .u8 D3) := (b1.cell (p := ⟨b9, 0, none⟩) (by show b9 < V.heap.size; omega)).trans h0_0
  have zh_1 : b9 < w1.heap.size := Nat.lt_of_lt_of_le zh_0 b1.size
  clear hb b1 d0 k0 rf_0 zrf_0 rg_0 zrg_0 rh_0 zrh_0 g0_0 zg_0 h0_0 zh_0
  as_aux_lemma =>
    go_wp2_with fail
    go_ret
    exact ⟨by first | rfl | simp, (by (repeat' (first | with_reducible exact d1 | refine Below.setCell ?_ (by first | omega | (simp; done) | (simp; omega)) _ | refine Below.alloc ?_ (by first | omega | (simp; done) | (simp; omega)) _)))⟩

set_option maxRecDepth 100000 in
set_option maxHeartbeats 4000000 in
theorem again_no2 (d1 k1 t1 d2 k2 t2 d3 k3 t3 : Int) (D1 K1 T1 D2 K2 T2 D3 K3 T3 : Int) (F1 F2 F3 : List Value) (S1 S2 S3 : Array Value) (X : Int) (w : World) (HA : Hid (Ans w))
    (HS1 : Hid (∀ w, Calls Tryd.prog 12 #[.agg #[.int .u8 d1, .int .u8 k1, .int .u8 t1]] w fun e w' => e = .returned (.agg S1) ∧ Below w.heap.size w w')) (HSV1 : Hid ((Value.int .u8 D1 :: F1).toArray = S1)) (HFa1 : Hid (Fa F1.toArray K1 T1)) (H201 : Hid (S1.size = 20)) (Ho1 : Hid (S1.all (·.oneCell') = true)) (hD1 : 0 ≤ D1 ∧ D1 ≤ 255) (hK1 : 0 ≤ K1 ∧ K1 ≤ 255) (hT1 : 0 ≤ T1 ∧ T1 ≤ 255)
    (HS2 : Hid (∀ w, Calls Tryd.prog 12 #[.agg #[.int .u8 d2, .int .u8 k2, .int .u8 t2]] w fun e w' => e = .returned (.agg S2) ∧ Below w.heap.size w w')) (HSV2 : Hid ((Value.int .u8 D2 :: F2).toArray = S2)) (HFa2 : Hid (Fa F2.toArray K2 T2)) (H202 : Hid (S2.size = 20)) (Ho2 : Hid (S2.all (·.oneCell') = true)) (hD2 : 0 ≤ D2 ∧ D2 ≤ 255) (hK2 : 0 ≤ K2 ∧ K2 ≤ 255) (hT2 : 0 ≤ T2 ∧ T2 ≤ 255)
    (HS3 : Hid (∀ w, Calls Tryd.prog 12 #[.agg #[.int .u8 d3, .int .u8 k3, .int .u8 t3]] w fun e w' => e = .returned (.agg S3) ∧ Below w.heap.size w w')) (HSV3 : Hid ((Value.int .u8 D3 :: F3).toArray = S3)) (HFa3 : Hid (Fa F3.toArray K3 T3)) (H203 : Hid (S3.size = 20)) (Ho3 : Hid (S3.all (·.oneCell') = true)) (hD3 : 0 ≤ D3 ∧ D3 ≤ 255) (hK3 : 0 ≤ K3 ∧ K3 ≤ 255) (hT3 : 0 ≤ T3 ∧ T3 ≤ 255)
    (ho : Hid (opens K1 T1 = true)) (hX : Hid (typOf K1 T1 = X)) (ha : Hid (alw K1 1 X D2 K2 T2 = false)) :
    Calls Tryd.prog 4 #[.agg #[.int .u8 d1, .int .u8 k1, .int .u8 t1], .agg #[.int .u8 d2, .int .u8 k2, .int .u8 t2], .agg #[.int .u8 d3, .int .u8 k3, .int .u8 t3]] w fun e w' => e = .returned (.bool true) ∧ Below w.heap.size w w' := by
  have hX1 : 0 ≤ X ∧ X ≤ 255 := by rw [← hX.out]; unfold typOf; split <;> omega
  have HI1 : Hid ((Tryd.prog.info? 35).map (·.size) = some S1.size) := by rw [H201.out]; exact info35
  have HJ1 := Lib.hid HFa1.out.hi
  have HI2 : Hid ((Tryd.prog.info? 35).map (·.size) = some S2.size) := by rw [H202.out]; exact info35
  have HJ2 := Lib.hid HFa2.out.hi
  have HI3 : Hid ((Tryd.prog.info? 35).map (·.size) = some S3.size) := by rw [H203.out]; exact info35
  have HJ3 := Lib.hid HFa3.out.hi
  go_enter Tryd.func4, Tryd.ntmps4
  go_wp2_with fail
  refine (awake_any _ (HA.out.below (by (repeat' (first | exact Below.refl _ _ | refine Below.setCell ?_ (by first | omega | (simp; done) | (simp; omega)) _ | refine Below.alloc ?_ (by first | omega | (simp; done) | (simp; omega)) _))))).mono ?_
  rintro e w1 ⟨rfl, hb⟩
  have hb1 : Below w.heap.size w w1 := bthen (by (repeat' (first | exact Below.refl _ _ | refine Below.setCell ?_ (by first | omega | (simp; done) | (simp; omega)) _ | refine Below.alloc ?_ (by first | omega | (simp; done) | (simp; omega)) _))) hb
  have p10 : w1.cell? ⟨w.heap.size, 0, none⟩ = some (.int .u8 d1) := (hb.cell (p := ⟨w.heap.size, 0, none⟩) (by first | (simp; done) | (simp; omega))).trans (by simp [go_sem])
  have p11 : w1.cell? ⟨w.heap.size, 1, none⟩ = some (.int .u8 k1) := (hb.cell (p := ⟨w.heap.size, 1, none⟩) (by first | (simp; done) | (simp; omega))).trans (by simp [go_sem])
  have p12 : w1.cell? ⟨w.heap.size, 2, none⟩ = some (.int .u8 t1) := (hb.cell (p := ⟨w.heap.size, 2, none⟩) (by first | (simp; done) | (simp; omega))).trans (by simp [go_sem])
  have p20 : w1.cell? ⟨w.heap.size + 1, 0, none⟩ = some (.int .u8 d2) := (hb.cell (p := ⟨w.heap.size + 1, 0, none⟩) (by first | (simp; done) | (simp; omega))).trans (by simp [go_sem])
  have p21 : w1.cell? ⟨w.heap.size + 1, 1, none⟩ = some (.int .u8 k2) := (hb.cell (p := ⟨w.heap.size + 1, 1, none⟩) (by first | (simp; done) | (simp; omega))).trans (by simp [go_sem])
  have p22 : w1.cell? ⟨w.heap.size + 1, 2, none⟩ = some (.int .u8 t2) := (hb.cell (p := ⟨w.heap.size + 1, 2, none⟩) (by first | (simp; done) | (simp; omega))).trans (by simp [go_sem])
  have p30 : w1.cell? ⟨w.heap.size + 1 + 1, 0, none⟩ = some (.int .u8 d3) := (hb.cell (p := ⟨w.heap.size + 1 + 1, 0, none⟩) (by first | (simp; done) | (simp; omega))).trans (by simp [go_sem])
  have p31 : w1.cell? ⟨w.heap.size + 1 + 1, 1, none⟩ = some (.int .u8 k3) := (hb.cell (p := ⟨w.heap.size + 1 + 1, 1, none⟩) (by first | (simp; done) | (simp; omega))).trans (by simp [go_sem])
  have p32 : w1.cell? ⟨w.heap.size + 1 + 1, 2, none⟩ = some (.int .u8 t3) := (hb.cell (p := ⟨w.heap.size + 1 + 1, 2, none⟩) (by first | (simp; done) | (simp; omega))).trans (by simp [go_sem])
  clear hb
  go_wp2_with fail
  refine wp_region_steps 9 [[], [0], [], [2], [], [4]] (fun D a w' => ∃ v7 v8 v9 v23 v24 v25 v26 v27 v28 : Value, a = ⟨#[.agg #[.int .u8 d1, .int .u8 k1, .int .u8 t1], .agg #[.int .u8 d2, .int .u8 k2, .int .u8 t2], .agg #[.int .u8 d3, .int .u8 k3, .int .u8 t3], .pointer (some ⟨w.heap.size, 0, none⟩), .pointer (some ⟨w.heap.size + 1, 0, none⟩), .pointer (some ⟨w.heap.size + 1 + 1, 0, none⟩), .bool false, v7, v8, v9, undef, undef, undef, undef, undef, undef, undef, undef, undef, undef, undef, .bool true, .bool false, v23, v24, v25, v26, v27, v28, undef, undef, undef, undef, undef, undef, undef, undef, undef, undef, undef, undef, undef, undef, undef, undef, undef, undef, undef, undef, undef, undef, undef, undef, undef, undef, undef, undef, undef, undef, undef, undef, undef, undef, undef, undef, undef, undef, undef, undef, undef, undef, undef, undef, undef, undef, undef, undef, undef, undef, undef, undef, undef, undef, undef, undef, undef, undef, undef, undef, undef, undef, undef, undef, undef, undef, undef, undef, undef, undef, undef], []⟩ ∧ AgR w1 (.agg #[.int .u8 d1, .int .u8 k1, .int .u8 t1]) (.agg #[.int .u8 d2, .int .u8 k2, .int .u8 t2]) (.agg #[.int .u8 d3, .int .u8 k3, .int .u8 t3]) S1 S2 S3 D v7 v8 v9 v23 v24 v25 v26 v27 v28 w') (by kernel_rfl) (by kernel_rfl) ⟨undef, undef, undef, undef, undef, undef, undef, undef, undef, rfl, AgR.zero w1 (.agg #[.int .u8 d1, .int .u8 k1, .int .u8 t1]) (.agg #[.int .u8 d2, .int .u8 k2, .int .u8 t2]) (.agg #[.int .u8 d3, .int .u8 k3, .int .u8 t3]) S1 S2 S3 (undef) (undef) (undef) (undef) (undef) (undef) (undef) (undef) (undef)⟩ ?_ ?_
  · simp only [List.take_succ_cons, List.take_zero]
    refine ⟨?_, ?_, ?_, ?_, ?_, ?_, ?_, ?_, ?_, trivial⟩
    · intro D a w' hn hp hI
      obtain ⟨v7, v8, v9, v23, v24, v25, v26, v27, v28, rfl, hR⟩ := hI
      have c0 := kc hR.b p10
      have c1 := kc hR.b p11
      have c2 := kc hR.b p12
      clear hn hp
      go_wp2_with fail
      exact ⟨_, _, _, _, _, _, _, _, _, rfl, hR.s0 (Below.refl _ _)⟩
    · intro D a w' hn hp hI
      obtain ⟨v7, v8, v9, v23, v24, v25, v26, v27, v28, rfl, hR⟩ := hI
      obtain rfl := hR.e0 hp.1
      clear hn hp
      go_wp2_with fail
      refine (HS1.out _).mono ?_
      rintro e w'' ⟨rfl, hb⟩
      go_wp2_with fail
      exact ⟨_, _, _, _, _, _, _, _, _, rfl, hR.s1 hb⟩
    · intro D a w' hn hp hI
      obtain ⟨v7, v8, v9, v23, v24, v25, v26, v27, v28, rfl, hR⟩ := hI
      have c0 := kc hR.b p20
      have c1 := kc hR.b p21
      have c2 := kc hR.b p22
      clear hn hp
      go_wp2_with fail
      exact ⟨_, _, _, _, _, _, _, _, _, rfl, hR.s2 (Below.refl _ _)⟩
    · intro D a w' hn hp hI
      obtain ⟨v7, v8, v9, v23, v24, v25, v26, v27, v28, rfl, hR⟩ := hI
      obtain rfl := hR.e2 hp.1
      clear hn hp
      go_wp2_with fail
      refine (HS2.out _).mono ?_
      rintro e w'' ⟨rfl, hb⟩
      go_wp2_with fail
      exact ⟨_, _, _, _, _, _, _, _, _, rfl, hR.s3 hb⟩
    · intro D a w' hn hp hI
      obtain ⟨v7, v8, v9, v23, v24, v25, v26, v27, v28, rfl, hR⟩ := hI
      have c0 := kc hR.b p30
      have c1 := kc hR.b p31
      have c2 := kc hR.b p32
      clear hn hp
      go_wp2_with fail
      exact ⟨_, _, _, _, _, _, _, _, _, rfl, hR.s4 (Below.refl _ _)⟩
    · intro D a w' hn hp hI
      obtain ⟨v7, v8, v9, v23, v24, v25, v26, v27, v28, rfl, hR⟩ := hI
      obtain rfl := hR.e4 hp.1
      clear hn hp
      go_wp2_with fail
      refine (HS3.out _).mono ?_
      rintro e w'' ⟨rfl, hb⟩
      go_wp2_with fail
      exact ⟨_, _, _, _, _, _, _, _, _, rfl, hR.s5 hb⟩
    · intro D a w' hn hp hI
      obtain ⟨v7, v8, v9, v23, v24, v25, v26, v27, v28, rfl, hR⟩ := hI
      clear hn hp
      go_wp2_with fail
      exact ⟨_, _, _, _, _, _, _, _, _, rfl, hR.s6 ((Below.refl _ _).alloc (Nat.le_refl _) _) ⟨_, rfl, hR.b.size, there_new _ _ _ _ _ rfl rfl⟩⟩
    · intro D a w' hn hp hI
      obtain ⟨v7, v8, v9, v23, v24, v25, v26, v27, v28, rfl, hR⟩ := hI
      clear hn hp
      go_wp2_with fail
      exact ⟨_, _, _, _, _, _, _, _, _, rfl, hR.s7 ((Below.refl _ _).alloc (Nat.le_refl _) _) ⟨_, rfl, hR.b.size, there_new _ _ _ _ _ rfl rfl⟩⟩
    · intro D a w' hn hp hI
      obtain ⟨v7, v8, v9, v23, v24, v25, v26, v27, v28, rfl, hR⟩ := hI
      clear hn hp
      go_wp2_with fail
      exact ⟨_, _, _, _, _, _, _, _, _, rfl, hR.s8 ((Below.refl _ _).alloc (Nat.le_refl _) _) ⟨_, rfl, hR.b.size, there_new _ _ _ _ _ rfl rfl⟩⟩
  intro D a w' hD hI
  obtain ⟨v7, v8, v9, v23, v24, v25, v26, v27, v28, rfl, hR⟩ := hI
  obtain rfl := hR.e1 (hD 1 (by decide))
  obtain rfl := hR.e3 (hD 3 (by decide))
  obtain rfl := hR.e5 (hD 5 (by decide))
  obtain ⟨b7, rfl, l7, t7⟩ := hR.m6 (hD 6 (by decide))
  obtain ⟨b8, rfl, l8, t8⟩ := hR.m7 (hD 7 (by decide))
  obtain ⟨b9, rfl, l9, t9⟩ := hR.m8 (hD 8 (by decide))
  have n1 : b7 ≠ b8 := fun e => hR.n6_7 (hD 6 (by decide)) (hD 7 (by decide)) (by rw [e])
  have n2 : b7 ≠ b9 := fun e => hR.n6_8 (hD 6 (by decide)) (hD 8 (by decide)) (by rw [e])
  have n3 : b8 ≠ b9 := fun e => hR.n7_8 (hD 7 (by decide)) (hD 8 (by decide)) (by rw [e])
  have q0 : Below w.heap.size w w' := bthen hb1 hR.b
  have l := hb1.size
  obtain rfl := hR.e0 (hD 0 (by decide))
  obtain rfl := hR.e2 (hD 2 (by decide))
  obtain rfl := hR.e4 (hD 4 (by decide))
  clear hD hR p10 p11 p12 p20 p21 p22 p30 p31 p32 hb1
  simp only [List.drop_succ_cons, List.drop_zero]
  refine wpList_store_wide 35 (.tmp 7) (.tmp 24) rfl rfl b7 0 S1 rfl rfl w.heap.size w HI1.out Ho1.out q0 (by omega) (by rw [H201.out]; exact t7) ?_
  intro u1 q1 _ r1 _ y1 _
  refine wpList_store_wide 35 (.tmp 8) (.tmp 26) rfl rfl b8 0 S2 rfl rfl w.heap.size w HI2.out Ho2.out q1 (by omega) (by rw [H202.out]; exact y1 _ _ _ t8) ?_
  intro u2 q2 _ r2 x2 y2 _
  refine wpList_store_wide 35 (.tmp 9) (.tmp 28) rfl rfl b9 0 S3 rfl rfl w.heap.size w HI3.out Ho3.out q2 (by omega) (by rw [H203.out]; exact y2 _ _ _ (y1 _ _ _ t9)) ?_
  intro V d0 _ r3 x3 _ _
  have g1 := x3 _ _ _ n2 (x2 _ _ _ n1 r1)
  have g2 := x3 _ _ _ n3 r2
  rw [← HSV1.out] at g1
  rw [← HSV2.out] at g2
  rw [← HSV3.out] at r3
  obtain ⟨f0_0, rf_0⟩ := open_any0 _ _ _ _ g1
  obtain ⟨g0_0, rg_0⟩ := open_any0 _ _ _ _ g2
  obtain ⟨h0_0, rh_0⟩ := open_any0 _ _ _ _ r3
  have zf_0 := cell_lt f0_0
  have zrf_0 := zf_0
  have zg_0 := cell_lt g0_0
  have zrg_0 := zg_0
  have zh_0 := cell_lt h0_0
  have zrh_0 := zh_0
  have k0 : w.heap.size ≤ V.heap.size := d0.size
  clear q0 q1 q2 t7 t8 t9 l7 l8 l9 n1 n2 n3 y1 y2 x2 x3 r1 r2 r3 g1 g2 l
  clear f0_0 zf_0
  go_wp2_with (refine wpList_load_wide 29 _ rfl (by rfl) _ _ rfl F1.toArray _ Tryd.underlying29 rfl HJ1.out ?_ ?_; · (repeat (first | with_reducible exact rf_0 | refine World.rangeAt_alloc ?_ _)))
  refine (open_is F1.toArray K1 T1 (K1, 1, X) true _ HFa1.out (HA.out.below (by (repeat' (first | with_reducible exact d0 | refine Below.setCell ?_ (by first | omega | (simp; done) | (simp; omega)) _ | refine Below.alloc ?_ (by first | omega | (simp; done) | (simp; omega)) _)))) (by rw [opn, ho.out, ← hX.out]; rfl) ho.out).mono ?_
  rintro e w1 ⟨rfl, hb⟩
  have b1 : Below V.heap.size V w1 := bthen (by (repeat' (first | exact Below.refl _ _ | refine Below.setCell ?_ (by first | omega | (simp; done) | (simp; omega)) _ | refine Below.alloc ?_ (by first | omega | (simp; done) | (simp; omega)) _))) hb
  have d1 : Below w.heap.size w w1 := bthen d0 b1
  have k1 : w.heap.size ≤ w1.heap.size := d1.size
  have rf_1 : w1.rangeAt (b7) 1 (F1.toArray).toList := range_below b1 (by omega) rf_0
  have zrf_1 : b7 < w1.heap.size := Nat.lt_of_lt_of_le zrf_0 b1.size
  have rg_1 : w1.rangeAt (b8) 1 (F2.toArray).toList := range_below b1 (by omega) rg_0
  have zrg_1 : b8 < w1.heap.size := Nat.lt_of_lt_of_le zrg_0 b1.size
  have rh_1 : w1.rangeAt (b9) 1 (F3.toArray).toList := range_below b1 (by omega) rh_0
  have zrh_1 : b9 < w1.heap.size := Nat.lt_of_lt_of_le zrh_0 b1.size
  have g0_1 : w1.cell? ⟨b8, 0, none⟩ = some (.int .u8 D2) := (b1.cell (p := ⟨b8, 0, none⟩) (by show b8 < V.heap.size; omega)).trans g0_0
  have zg_1 : b8 < w1.heap.size := Nat.lt_of_lt_of_le zg_0 b1.size
  have h0_1 : w1.cell? ⟨b9, 0, none⟩ = some (.int .u8 D3) := (b1.cell (p := ⟨b9, 0, none⟩) (by show b9 < V.heap.size; omega)).trans h0_0
  have zh_1 : b9 < w1.heap.size := Nat.lt_of_lt_of_le zh_0 b1.size
  clear hb b1 d0 k0 rf_0 zrf_0 rg_0 zrg_0 rh_0 zrh_0 g0_0 zg_0 h0_0 zh_0
  as_aux_lemma =>
    go_wp2_with (refine wpList_load_wide 29 _ rfl (by rfl) _ _ rfl F1.toArray _ Tryd.underlying29 rfl HJ1.out ?_ ?_; · (repeat (first | with_reducible exact rf_1 | refine World.rangeAt_alloc ?_ _)))
    refine (step_is F1.toArray K1 1 X 0 K1 T1 (K1, 1, X) true _ HFa1.out (HA.out.below (by (repeat' (first | with_reducible exact d1 | refine Below.setCell ?_ (by first | omega | (simp; done) | (simp; omega)) _ | refine Below.alloc ?_ (by first | omega | (simp; done) | (simp; omega)) _)))) hK1 hX1 (by decide) (again_first ho.out hX.out).2 (again_first ho.out hX.out).1).mono ?_
    rintro e w2 ⟨rfl, hb⟩
    have b2 : Below w1.heap.size w1 w2 := bthen (by (repeat' (first | exact Below.refl _ _ | refine Below.setCell ?_ (by first | omega | (simp; done) | (simp; omega)) _ | refine Below.alloc ?_ (by first | omega | (simp; done) | (simp; omega)) _))) hb
    have d2 : Below w.heap.size w w2 := bthen d1 b2
    have k2 : w.heap.size ≤ w2.heap.size := d2.size
    have rf_2 : w2.rangeAt (b7) 1 (F1.toArray).toList := range_below b2 (by omega) rf_1
    have zrf_2 : b7 < w2.heap.size := Nat.lt_of_lt_of_le zrf_1 b2.size
    have rg_2 : w2.rangeAt (b8) 1 (F2.toArray).toList := range_below b2 (by omega) rg_1
    have zrg_2 : b8 < w2.heap.size := Nat.lt_of_lt_of_le zrg_1 b2.size
    have rh_2 : w2.rangeAt (b9) 1 (F3.toArray).toList := range_below b2 (by omega) rh_1
    have zrh_2 : b9 < w2.heap.size := Nat.lt_of_lt_of_le zrh_1 b2.size
    have g0_2 : w2.cell? ⟨b8, 0, none⟩ = some (.int .u8 D2) := (b2.cell (p := ⟨b8, 0, none⟩) (by show b8 < w1.heap.size; omega)).trans g0_1
    have zg_2 : b8 < w2.heap.size := Nat.lt_of_lt_of_le zg_1 b2.size
    have h0_2 : w2.cell? ⟨b9, 0, none⟩ = some (.int .u8 D3) := (b2.cell (p := ⟨b9, 0, none⟩) (by show b9 < w1.heap.size; omega)).trans h0_1
    have zh_2 : b9 < w2.heap.size := Nat.lt_of_lt_of_le zh_1 b2.size
    have x0_2 : w2.cell? ⟨w1.heap.size, 0, none⟩ = some (.int .u8 K1) := (hb.cell (p := ⟨w1.heap.size, 0, none⟩) (by first | (simp; done) | (simp; omega))).trans (by simp [go_sem])
    have x1_2 : w2.cell? ⟨w1.heap.size, 1, none⟩ = some (.int .u8 1) := (hb.cell (p := ⟨w1.heap.size, 1, none⟩) (by first | (simp; done) | (simp; omega))).trans (by simp [go_sem])
    have x2_2 : w2.cell? ⟨w1.heap.size, 2, none⟩ = some (.int .u8 X) := (hb.cell (p := ⟨w1.heap.size, 2, none⟩) (by first | (simp; done) | (simp; omega))).trans (by simp [go_sem])
    have zx_2 : w1.heap.size < w2.heap.size := by have := hb.size; simp at this; omega
    clear hb b2 d1 k1 rf_1 zrf_1 rg_1 zrg_1 rh_1 zrh_1 g0_1 zg_1 h0_1 zh_1
    as_aux_lemma =>
      clear rf_2 zrf_2
      go_wp2_with (refine wpList_load_wide 29 _ rfl (by rfl) _ _ rfl F2.toArray _ Tryd.underlying29 rfl HJ2.out ?_ ?_; · (repeat (first | with_reducible exact rg_2 | refine World.rangeAt_alloc ?_ _)))
      refine (step_is F2.toArray K1 1 X D2 K2 T2 (0, 0, 0) false _ HFa2.out (HA.out.below (by (repeat' (first | with_reducible exact d2 | refine Below.setCell ?_ (by first | omega | (simp; done) | (simp; omega)) _ | refine Below.alloc ?_ (by first | omega | (simp; done) | (simp; omega)) _)))) hK1 hX1 hD2.1 (by rw [stF, ha.out]; rfl) ha.out).mono ?_
      rintro e w3 ⟨rfl, hb⟩
      have b3 : Below w2.heap.size w2 w3 := bthen (by (repeat' (first | exact Below.refl _ _ | refine Below.setCell ?_ (by first | omega | (simp; done) | (simp; omega)) _ | refine Below.alloc ?_ (by first | omega | (simp; done) | (simp; omega)) _))) hb
      have d3 : Below w.heap.size w w3 := bthen d2 b3
      have k3 : w.heap.size ≤ w3.heap.size := d3.size
      have rg_3 : w3.rangeAt (b8) 1 (F2.toArray).toList := range_below b3 (by omega) rg_2
      have zrg_3 : b8 < w3.heap.size := Nat.lt_of_lt_of_le zrg_2 b3.size
      have rh_3 : w3.rangeAt (b9) 1 (F3.toArray).toList := range_below b3 (by omega) rh_2
      have zrh_3 : b9 < w3.heap.size := Nat.lt_of_lt_of_le zrh_2 b3.size
      have g0_3 : w3.cell? ⟨b8, 0, none⟩ = some (.int .u8 D2) := (b3.cell (p := ⟨b8, 0, none⟩) (by show b8 < w2.heap.size; omega)).trans g0_2
      have zg_3 : b8 < w3.heap.size := Nat.lt_of_lt_of_le zg_2 b3.size
      have h0_3 : w3.cell? ⟨b9, 0, none⟩ = some (.int .u8 D3) := (b3.cell (p := ⟨b9, 0, none⟩) (by show b9 < w2.heap.size; omega)).trans h0_2
      have zh_3 : b9 < w3.heap.size := Nat.lt_of_lt_of_le zh_2 b3.size
      have x0_3 : w3.cell? ⟨w1.heap.size, 0, none⟩ = some (.int .u8 K1) := (b3.cell (p := ⟨w1.heap.size, 0, none⟩) (by show w1.heap.size < w2.heap.size; omega)).trans x0_2
      have x1_3 : w3.cell? ⟨w1.heap.size, 1, none⟩ = some (.int .u8 1) := (b3.cell (p := ⟨w1.heap.size, 1, none⟩) (by show w1.heap.size < w2.heap.size; omega)).trans x1_2
      have x2_3 : w3.cell? ⟨w1.heap.size, 2, none⟩ = some (.int .u8 X) := (b3.cell (p := ⟨w1.heap.size, 2, none⟩) (by show w1.heap.size < w2.heap.size; omega)).trans x2_2
      have zx_3 : w1.heap.size < w3.heap.size := Nat.lt_of_lt_of_le zx_2 b3.size
      clear hb b3 d2 k2 rg_2 zrg_2 rh_2 zrh_2 g0_2 zg_2 h0_2 zh_2 x0_2 x1_2 x2_2 zx_2
      as_aux_lemma =>
        go_wp2_with fail
        go_ret
        exact ⟨by first | rfl | simp, (by (repeat' (first | with_reducible exact d3 | refine Below.setCell ?_ (by first | omega | (simp; done) | (simp; omega)) _ | refine Below.alloc ?_ (by first | omega | (simp; done) | (simp; omega)) _)))⟩

set_option maxRecDepth 100000 in
set_option maxHeartbeats 4000000 in
theorem again_yes (d1 k1 t1 d2 k2 t2 d3 k3 t3 : Int) (D1 K1 T1 D2 K2 T2 D3 K3 T3 : Int) (F1 F2 F3 : List Value) (S1 S2 S3 : Array Value) (X s2 : Int) (b3 : Bool) (w : World) (HA : Hid (Ans w))
    (HS1 : Hid (∀ w, Calls Tryd.prog 12 #[.agg #[.int .u8 d1, .int .u8 k1, .int .u8 t1]] w fun e w' => e = .returned (.agg S1) ∧ Below w.heap.size w w')) (HSV1 : Hid ((Value.int .u8 D1 :: F1).toArray = S1)) (HFa1 : Hid (Fa F1.toArray K1 T1)) (H201 : Hid (S1.size = 20)) (Ho1 : Hid (S1.all (·.oneCell') = true)) (hD1 : 0 ≤ D1 ∧ D1 ≤ 255) (hK1 : 0 ≤ K1 ∧ K1 ≤ 255) (hT1 : 0 ≤ T1 ∧ T1 ≤ 255)
    (HS2 : Hid (∀ w, Calls Tryd.prog 12 #[.agg #[.int .u8 d2, .int .u8 k2, .int .u8 t2]] w fun e w' => e = .returned (.agg S2) ∧ Below w.heap.size w w')) (HSV2 : Hid ((Value.int .u8 D2 :: F2).toArray = S2)) (HFa2 : Hid (Fa F2.toArray K2 T2)) (H202 : Hid (S2.size = 20)) (Ho2 : Hid (S2.all (·.oneCell') = true)) (hD2 : 0 ≤ D2 ∧ D2 ≤ 255) (hK2 : 0 ≤ K2 ∧ K2 ≤ 255) (hT2 : 0 ≤ T2 ∧ T2 ≤ 255)
    (HS3 : Hid (∀ w, Calls Tryd.prog 12 #[.agg #[.int .u8 d3, .int .u8 k3, .int .u8 t3]] w fun e w' => e = .returned (.agg S3) ∧ Below w.heap.size w w')) (HSV3 : Hid ((Value.int .u8 D3 :: F3).toArray = S3)) (HFa3 : Hid (Fa F3.toArray K3 T3)) (H203 : Hid (S3.size = 20)) (Ho3 : Hid (S3.all (·.oneCell') = true)) (hD3 : 0 ≤ D3 ∧ D3 ≤ 255) (hK3 : 0 ≤ K3 ∧ K3 ≤ 255) (hT3 : 0 ≤ T3 ∧ T3 ≤ 255)
    (ho : Hid (opens K1 T1 = true)) (hX : Hid (typOf K1 T1 = X)) (ha : Hid (alw K1 1 X D2 K2 T2 = true)) (hs2 : Hid ((if D2 = 1 then (2 : Int) else 1) = s2)) (hb3 : Hid (alw K1 1 X D3 K3 T3 = b3)) :
    Calls Tryd.prog 4 #[.agg #[.int .u8 d1, .int .u8 k1, .int .u8 t1], .agg #[.int .u8 d2, .int .u8 k2, .int .u8 t2], .agg #[.int .u8 d3, .int .u8 k3, .int .u8 t3]] w fun e w' => e = .returned (.bool true) ∧ Below w.heap.size w w' := by
  obtain ⟨⟨e1, e2, e3⟩, hE⟩ : ∃ x, stF K1 1 X D3 K3 T3 = x := ⟨_, rfl⟩
  obtain ⟨⟨g1, g2, g3⟩, hG⟩ : ∃ x, stF K1 s2 X D3 K3 T3 = x := ⟨_, rfl⟩
  have HE := Lib.hid hE
  have HG := Lib.hid hG
  clear hE hG
  have hX1 : 0 ≤ X ∧ X ≤ 255 := by rw [← hX.out]; unfold typOf; split <;> omega
  have HI1 : Hid ((Tryd.prog.info? 35).map (·.size) = some S1.size) := by rw [H201.out]; exact info35
  have HJ1 := Lib.hid HFa1.out.hi
  have HI2 : Hid ((Tryd.prog.info? 35).map (·.size) = some S2.size) := by rw [H202.out]; exact info35
  have HJ2 := Lib.hid HFa2.out.hi
  have HI3 : Hid ((Tryd.prog.info? 35).map (·.size) = some S3.size) := by rw [H203.out]; exact info35
  have HJ3 := Lib.hid HFa3.out.hi
  go_enter Tryd.func4, Tryd.ntmps4
  go_wp2_with fail
  refine (awake_any _ (HA.out.below (by (repeat' (first | exact Below.refl _ _ | refine Below.setCell ?_ (by first | omega | (simp; done) | (simp; omega)) _ | refine Below.alloc ?_ (by first | omega | (simp; done) | (simp; omega)) _))))).mono ?_
  rintro e w1 ⟨rfl, hb⟩
  have hb1 : Below w.heap.size w w1 := bthen (by (repeat' (first | exact Below.refl _ _ | refine Below.setCell ?_ (by first | omega | (simp; done) | (simp; omega)) _ | refine Below.alloc ?_ (by first | omega | (simp; done) | (simp; omega)) _))) hb
  have p10 : w1.cell? ⟨w.heap.size, 0, none⟩ = some (.int .u8 d1) := (hb.cell (p := ⟨w.heap.size, 0, none⟩) (by first | (simp; done) | (simp; omega))).trans (by simp [go_sem])
  have p11 : w1.cell? ⟨w.heap.size, 1, none⟩ = some (.int .u8 k1) := (hb.cell (p := ⟨w.heap.size, 1, none⟩) (by first | (simp; done) | (simp; omega))).trans (by simp [go_sem])
  have p12 : w1.cell? ⟨w.heap.size, 2, none⟩ = some (.int .u8 t1) := (hb.cell (p := ⟨w.heap.size, 2, none⟩) (by first | (simp; done) | (simp; omega))).trans (by simp [go_sem])
  have p20 : w1.cell? ⟨w.heap.size + 1, 0, none⟩ = some (.int .u8 d2) := (hb.cell (p := ⟨w.heap.size + 1, 0, none⟩) (by first | (simp; done) | (simp; omega))).trans (by simp [go_sem])
  have p21 : w1.cell? ⟨w.heap.size + 1, 1, none⟩ = some (.int .u8 k2) := (hb.cell (p := ⟨w.heap.size + 1, 1, none⟩) (by first | (simp; done) | (simp; omega))).trans (by simp [go_sem])
  have p22 : w1.cell? ⟨w.heap.size + 1, 2, none⟩ = some (.int .u8 t2) := (hb.cell (p := ⟨w.heap.size + 1, 2, none⟩) (by first | (simp; done) | (simp; omega))).trans (by simp [go_sem])
  have p30 : w1.cell? ⟨w.heap.size + 1 + 1, 0, none⟩ = some (.int .u8 d3) := (hb.cell (p := ⟨w.heap.size + 1 + 1, 0, none⟩) (by first | (simp; done) | (simp; omega))).trans (by simp [go_sem])
  have p31 : w1.cell? ⟨w.heap.size + 1 + 1, 1, none⟩ = some (.int .u8 k3) := (hb.cell (p := ⟨w.heap.size + 1 + 1, 1, none⟩) (by first | (simp; done) | (simp; omega))).trans (by simp [go_sem])
  have p32 : w1.cell? ⟨w.heap.size + 1 + 1, 2, none⟩ = some (.int .u8 t3) := (hb.cell (p := ⟨w.heap.size + 1 + 1, 2, none⟩) (by first | (simp; done) | (simp; omega))).trans (by simp [go_sem])
  clear hb
  go_wp2_with fail
  refine wp_region_steps 9 [[], [0], [], [2], [], [4]] (fun D a w' => ∃ v7 v8 v9 v23 v24 v25 v26 v27 v28 : Value, a = ⟨#[.agg #[.int .u8 d1, .int .u8 k1, .int .u8 t1], .agg #[.int .u8 d2, .int .u8 k2, .int .u8 t2], .agg #[.int .u8 d3, .int .u8 k3, .int .u8 t3], .pointer (some ⟨w.heap.size, 0, none⟩), .pointer (some ⟨w.heap.size + 1, 0, none⟩), .pointer (some ⟨w.heap.size + 1 + 1, 0, none⟩), .bool false, v7, v8, v9, undef, undef, undef, undef, undef, undef, undef, undef, undef, undef, undef, .bool true, .bool false, v23, v24, v25, v26, v27, v28, undef, undef, undef, undef, undef, undef, undef, undef, undef, undef, undef, undef, undef, undef, undef, undef, undef, undef, undef, undef, undef, undef, undef, undef, undef, undef, undef, undef, undef, undef, undef, undef, undef, undef, undef, undef, undef, undef, undef, undef, undef, undef, undef, undef, undef, undef, undef, undef, undef, undef, undef, undef, undef, undef, undef, undef, undef, undef, undef, undef, undef, undef, undef, undef, undef, undef, undef, undef, undef, undef, undef], []⟩ ∧ AgR w1 (.agg #[.int .u8 d1, .int .u8 k1, .int .u8 t1]) (.agg #[.int .u8 d2, .int .u8 k2, .int .u8 t2]) (.agg #[.int .u8 d3, .int .u8 k3, .int .u8 t3]) S1 S2 S3 D v7 v8 v9 v23 v24 v25 v26 v27 v28 w') (by kernel_rfl) (by kernel_rfl) ⟨undef, undef, undef, undef, undef, undef, undef, undef, undef, rfl, AgR.zero w1 (.agg #[.int .u8 d1, .int .u8 k1, .int .u8 t1]) (.agg #[.int .u8 d2, .int .u8 k2, .int .u8 t2]) (.agg #[.int .u8 d3, .int .u8 k3, .int .u8 t3]) S1 S2 S3 (undef) (undef) (undef) (undef) (undef) (undef) (undef) (undef) (undef)⟩ ?_ ?_
  · simp only [List.take_succ_cons, List.take_zero]
    refine ⟨?_, ?_, ?_, ?_, ?_, ?_, ?_, ?_, ?_, trivial⟩
    · intro D a w' hn hp hI
      obtain ⟨v7, v8, v9, v23, v24, v25, v26, v27, v28, rfl, hR⟩ := hI
      have c0 := kc hR.b p10
      have c1 := kc hR.b p11
      have c2 := kc hR.b p12
      clear hn hp
      go_wp2_with fail
      exact ⟨_, _, _, _, _, _, _, _, _, rfl, hR.s0 (Below.refl _ _)⟩
    · intro D a w' hn hp hI
      obtain ⟨v7, v8, v9, v23, v24, v25, v26, v27, v28, rfl, hR⟩ := hI
      obtain rfl := hR.e0 hp.1
      clear hn hp
      go_wp2_with fail
      refine (HS1.out _).mono ?_
      rintro e w'' ⟨rfl, hb⟩
      go_wp2_with fail
      exact ⟨_, _, _, _, _, _, _, _, _, rfl, hR.s1 hb⟩
    · intro D a w' hn hp hI
      obtain ⟨v7, v8, v9, v23, v24, v25, v26, v27, v28, rfl, hR⟩ := hI
      have c0 := kc hR.b p20
      have c1 := kc hR.b p21
      have c2 := kc hR.b p22
      clear hn hp
      go_wp2_with fail
      exact ⟨_, _, _, _, _, _, _, _, _, rfl, hR.s2 (Below.refl _ _)⟩
    · intro D a w' hn hp hI
      obtain ⟨v7, v8, v9, v23, v24, v25, v26, v27, v28, rfl, hR⟩ := hI
      obtain rfl := hR.e2 hp.1
      clear hn hp
      go_wp2_with fail
      refine (HS2.out _).mono ?_
      rintro e w'' ⟨rfl, hb⟩
      go_wp2_with fail
      exact ⟨_, _, _, _, _, _, _, _, _, rfl, hR.s3 hb⟩
    · intro D a w' hn hp hI
      obtain ⟨v7, v8, v9, v23, v24, v25, v26, v27, v28, rfl, hR⟩ := hI
      have c0 := kc hR.b p30
      have c1 := kc hR.b p31
      have c2 := kc hR.b p32
      clear hn hp
      go_wp2_with fail
      exact ⟨_, _, _, _, _, _, _, _, _, rfl, hR.s4 (Below.refl _ _)⟩
    · intro D a w' hn hp hI
      obtain ⟨v7, v8, v9, v23, v24, v25, v26, v27, v28, rfl, hR⟩ := hI
      obtain rfl := hR.e4 hp.1
      clear hn hp
      go_wp2_with fail
      refine (HS3.out _).mono ?_
      rintro e w'' ⟨rfl, hb⟩
      go_wp2_with fail
      exact ⟨_, _, _, _, _, _, _, _, _, rfl, hR.s5 hb⟩
    · intro D a w' hn hp hI
      obtain ⟨v7, v8, v9, v23, v24, v25, v26, v27, v28, rfl, hR⟩ := hI
      clear hn hp
      go_wp2_with fail
      exact ⟨_, _, _, _, _, _, _, _, _, rfl, hR.s6 ((Below.refl _ _).alloc (Nat.le_refl _) _) ⟨_, rfl, hR.b.size, there_new _ _ _ _ _ rfl rfl⟩⟩
    · intro D a w' hn hp hI
      obtain ⟨v7, v8, v9, v23, v24, v25, v26, v27, v28, rfl, hR⟩ := hI
      clear hn hp
      go_wp2_with fail
      exact ⟨_, _, _, _, _, _, _, _, _, rfl, hR.s7 ((Below.refl _ _).alloc (Nat.le_refl _) _) ⟨_, rfl, hR.b.size, there_new _ _ _ _ _ rfl rfl⟩⟩
    · intro D a w' hn hp hI
      obtain ⟨v7, v8, v9, v23, v24, v25, v26, v27, v28, rfl, hR⟩ := hI
      clear hn hp
      go_wp2_with fail
      exact ⟨_, _, _, _, _, _, _, _, _, rfl, hR.s8 ((Below.refl _ _).alloc (Nat.le_refl _) _) ⟨_, rfl, hR.b.size, there_new _ _ _ _ _ rfl rfl⟩⟩
  intro D a w' hD hI
  obtain ⟨v7, v8, v9, v23, v24, v25, v26, v27, v28, rfl, hR⟩ := hI
  obtain rfl := hR.e1 (hD 1 (by decide))
  obtain rfl := hR.e3 (hD 3 (by decide))
  obtain rfl := hR.e5 (hD 5 (by decide))
  obtain ⟨b7, rfl, l7, t7⟩ := hR.m6 (hD 6 (by decide))
  obtain ⟨b8, rfl, l8, t8⟩ := hR.m7 (hD 7 (by decide))
  obtain ⟨b9, rfl, l9, t9⟩ := hR.m8 (hD 8 (by decide))
  have n1 : b7 ≠ b8 := fun e => hR.n6_7 (hD 6 (by decide)) (hD 7 (by decide)) (by rw [e])
  have n2 : b7 ≠ b9 := fun e => hR.n6_8 (hD 6 (by decide)) (hD 8 (by decide)) (by rw [e])
  have n3 : b8 ≠ b9 := fun e => hR.n7_8 (hD 7 (by decide)) (hD 8 (by decide)) (by rw [e])
  have q0 : Below w.heap.size w w' := bthen hb1 hR.b
  have l := hb1.size
  obtain rfl := hR.e0 (hD 0 (by decide))
  obtain rfl := hR.e2 (hD 2 (by decide))
  obtain rfl := hR.e4 (hD 4 (by decide))
  clear hD hR p10 p11 p12 p20 p21 p22 p30 p31 p32 hb1
  simp only [List.drop_succ_cons, List.drop_zero]
  refine wpList_store_wide 35 (.tmp 7) (.tmp 24) rfl rfl b7 0 S1 rfl rfl w.heap.size w HI1.out Ho1.out q0 (by omega) (by rw [H201.out]; exact t7) ?_
  intro u1 q1 _ r1 _ y1 _
  refine wpList_store_wide 35 (.tmp 8) (.tmp 26) rfl rfl b8 0 S2 rfl rfl w.heap.size w HI2.out Ho2.out q1 (by omega) (by rw [H202.out]; exact y1 _ _ _ t8) ?_
  intro u2 q2 _ r2 x2 y2 _
  refine wpList_store_wide 35 (.tmp 9) (.tmp 28) rfl rfl b9 0 S3 rfl rfl w.heap.size w HI3.out Ho3.out q2 (by omega) (by rw [H203.out]; exact y2 _ _ _ (y1 _ _ _ t9)) ?_
  intro V d0 _ r3 x3 _ _
  have g1 := x3 _ _ _ n2 (x2 _ _ _ n1 r1)
  have g2 := x3 _ _ _ n3 r2
  rw [← HSV1.out] at g1
  rw [← HSV2.out] at g2
  rw [← HSV3.out] at r3
  obtain ⟨f0_0, rf_0⟩ := open_any0 _ _ _ _ g1
  obtain ⟨g0_0, rg_0⟩ := open_any0 _ _ _ _ g2
  obtain ⟨h0_0, rh_0⟩ := open_any0 _ _ _ _ r3
  have zf_0 := cell_lt f0_0
  have zrf_0 := zf_0
  have zg_0 := cell_lt g0_0
  have zrg_0 := zg_0
  have zh_0 := cell_lt h0_0
  have zrh_0 := zh_0
  have k0 : w.heap.size ≤ V.heap.size := d0.size
  clear q0 q1 q2 t7 t8 t9 l7 l8 l9 n1 n2 n3 y1 y2 x2 x3 r1 r2 r3 g1 g2 l
  clear f0_0 zf_0
  go_wp2_with (refine wpList_load_wide 29 _ rfl (by rfl) _ _ rfl F1.toArray _ Tryd.underlying29 rfl HJ1.out ?_ ?_; · (repeat (first | with_reducible exact rf_0 | refine World.rangeAt_alloc ?_ _)))
  refine (open_is F1.toArray K1 T1 (K1, 1, X) true _ HFa1.out (HA.out.below (by (repeat' (first | with_reducible exact d0 | refine Below.setCell ?_ (by first | omega | (simp; done) | (simp; omega)) _ | refine Below.alloc ?_ (by first | omega | (simp; done) | (simp; omega)) _)))) (by rw [opn, ho.out, ← hX.out]; rfl) ho.out).mono ?_
  rintro e w1 ⟨rfl, hb⟩
  have b1 : Below V.heap.size V w1 := bthen (by (repeat' (first | exact Below.refl _ _ | refine Below.setCell ?_ (by first | omega | (simp; done) | (simp; omega)) _ | refine Below.alloc ?_ (by first | omega | (simp; done) | (simp; omega)) _))) hb
  have d1 : Below w.heap.size w w1 := bthen d0 b1
  have k1 : w.heap.size ≤ w1.heap.size := d1.size
  have rf_1 : w1.rangeAt (b7) 1 (F1.toArray).toList := range_below b1 (by omega) rf_0
  have zrf_1 : b7 < w1.heap.size := Nat.lt_of_lt_of_le zrf_0 b1.size
  have rg_1 : w1.rangeAt (b8) 1 (F2.toArray).toList := range_below b1 (by omega) rg_0
  have zrg_1 : b8 < w1.heap.size := Nat.lt_of_lt_of_le zrg_0 b1.size
  have rh_1 : w1.rangeAt (b9) 1 (F3.toArray).toList := range_below b1 (by omega) rh_0
  have zrh_1 : b9 < w1.heap.size := Nat.lt_of_lt_of_le zrh_0 b1.size
  have g0_1 : w1.cell? ⟨b8, 0, none⟩ = some (.int .u8 D2) := (b1.cell (p := ⟨b8, 0, none⟩) (by show b8 < V.heap.size; omega)).trans g0_0
  have zg_1 : b8 < w1.heap.size := Nat.lt_of_lt_of_le zg_0 b1.size
  have h0_1 : w1.cell? ⟨b9, 0, none⟩ = some (.int .u8 D3) := (b1.cell (p := ⟨b9, 0, none⟩) (by show b9 < V.heap.size; omega)).trans h0_0
  have zh_1 : b9 < w1.heap.size := Nat.lt_of_lt_of_le zh_0 b1.size
  clear hb b1 d0 k0 rf_0 zrf_0 rg_0 zrg_0 rh_0 zrh_0 g0_0 zg_0 h0_0 zh_0
  as_aux_lemma =>
    go_wp2_with (refine wpList_load_wide 29 _ rfl (by rfl) _ _ rfl F1.toArray _ Tryd.underlying29 rfl HJ1.out ?_ ?_; · (repeat (first | with_reducible exact rf_1 | refine World.rangeAt_alloc ?_ _)))
    refine (step_is F1.toArray K1 1 X 0 K1 T1 (K1, 1, X) true _ HFa1.out (HA.out.below (by (repeat' (first | with_reducible exact d1 | refine Below.setCell ?_ (by first | omega | (simp; done) | (simp; omega)) _ | refine Below.alloc ?_ (by first | omega | (simp; done) | (simp; omega)) _)))) hK1 hX1 (by decide) (again_first ho.out hX.out).2 (again_first ho.out hX.out).1).mono ?_
    rintro e w2 ⟨rfl, hb⟩
    have b2 : Below w1.heap.size w1 w2 := bthen (by (repeat' (first | exact Below.refl _ _ | refine Below.setCell ?_ (by first | omega | (simp; done) | (simp; omega)) _ | refine Below.alloc ?_ (by first | omega | (simp; done) | (simp; omega)) _))) hb
    have d2 : Below w.heap.size w w2 := bthen d1 b2
    have k2 : w.heap.size ≤ w2.heap.size := d2.size
    have rf_2 : w2.rangeAt (b7) 1 (F1.toArray).toList := range_below b2 (by omega) rf_1
    have zrf_2 : b7 < w2.heap.size := Nat.lt_of_lt_of_le zrf_1 b2.size
    have rg_2 : w2.rangeAt (b8) 1 (F2.toArray).toList := range_below b2 (by omega) rg_1
    have zrg_2 : b8 < w2.heap.size := Nat.lt_of_lt_of_le zrg_1 b2.size
    have rh_2 : w2.rangeAt (b9) 1 (F3.toArray).toList := range_below b2 (by omega) rh_1
    have zrh_2 : b9 < w2.heap.size := Nat.lt_of_lt_of_le zrh_1 b2.size
    have g0_2 : w2.cell? ⟨b8, 0, none⟩ = some (.int .u8 D2) := (b2.cell (p := ⟨b8, 0, none⟩) (by show b8 < w1.heap.size; omega)).trans g0_1
    have zg_2 : b8 < w2.heap.size := Nat.lt_of_lt_of_le zg_1 b2.size
    have h0_2 : w2.cell? ⟨b9, 0, none⟩ = some (.int .u8 D3) := (b2.cell (p := ⟨b9, 0, none⟩) (by show b9 < w1.heap.size; omega)).trans h0_1
    have zh_2 : b9 < w2.heap.size := Nat.lt_of_lt_of_le zh_1 b2.size
    have x0_2 : w2.cell? ⟨w1.heap.size, 0, none⟩ = some (.int .u8 K1) := (hb.cell (p := ⟨w1.heap.size, 0, none⟩) (by first | (simp; done) | (simp; omega))).trans (by simp [go_sem])
    have x1_2 : w2.cell? ⟨w1.heap.size, 1, none⟩ = some (.int .u8 1) := (hb.cell (p := ⟨w1.heap.size, 1, none⟩) (by first | (simp; done) | (simp; omega))).trans (by simp [go_sem])
    have x2_2 : w2.cell? ⟨w1.heap.size, 2, none⟩ = some (.int .u8 X) := (hb.cell (p := ⟨w1.heap.size, 2, none⟩) (by first | (simp; done) | (simp; omega))).trans (by simp [go_sem])
    have zx_2 : w1.heap.size < w2.heap.size := by have := hb.size; simp at this; omega
    clear hb b2 d1 k1 rf_1 zrf_1 rg_1 zrg_1 rh_1 zrh_1 g0_1 zg_1 h0_1 zh_1
    as_aux_lemma =>
      clear rf_2 zrf_2
      go_wp2_with (refine wpList_load_wide 29 _ rfl (by rfl) _ _ rfl F2.toArray _ Tryd.underlying29 rfl HJ2.out ?_ ?_; · (repeat (first | with_reducible exact rg_2 | refine World.rangeAt_alloc ?_ _)))
      refine (step_is F2.toArray K1 1 X D2 K2 T2 (K1, s2, X) true _ HFa2.out (HA.out.below (by (repeat' (first | with_reducible exact d2 | refine Below.setCell ?_ (by first | omega | (simp; done) | (simp; omega)) _ | refine Below.alloc ?_ (by first | omega | (simp; done) | (simp; omega)) _)))) hK1 hX1 hD2.1 (hs2.out ▸ (again_st ha.out).1) ha.out).mono ?_
      rintro e w3 ⟨rfl, hb⟩
      have b3 : Below w2.heap.size w2 w3 := bthen (by (repeat' (first | exact Below.refl _ _ | refine Below.setCell ?_ (by first | omega | (simp; done) | (simp; omega)) _ | refine Below.alloc ?_ (by first | omega | (simp; done) | (simp; omega)) _))) hb
      have d3 : Below w.heap.size w w3 := bthen d2 b3
      have k3 : w.heap.size ≤ w3.heap.size := d3.size
      have rg_3 : w3.rangeAt (b8) 1 (F2.toArray).toList := range_below b3 (by omega) rg_2
      have zrg_3 : b8 < w3.heap.size := Nat.lt_of_lt_of_le zrg_2 b3.size
      have rh_3 : w3.rangeAt (b9) 1 (F3.toArray).toList := range_below b3 (by omega) rh_2
      have zrh_3 : b9 < w3.heap.size := Nat.lt_of_lt_of_le zrh_2 b3.size
      have g0_3 : w3.cell? ⟨b8, 0, none⟩ = some (.int .u8 D2) := (b3.cell (p := ⟨b8, 0, none⟩) (by show b8 < w2.heap.size; omega)).trans g0_2
      have zg_3 : b8 < w3.heap.size := Nat.lt_of_lt_of_le zg_2 b3.size
      have h0_3 : w3.cell? ⟨b9, 0, none⟩ = some (.int .u8 D3) := (b3.cell (p := ⟨b9, 0, none⟩) (by show b9 < w2.heap.size; omega)).trans h0_2
      have zh_3 : b9 < w3.heap.size := Nat.lt_of_lt_of_le zh_2 b3.size
      have x0_3 : w3.cell? ⟨w1.heap.size, 0, none⟩ = some (.int .u8 K1) := (b3.cell (p := ⟨w1.heap.size, 0, none⟩) (by show w1.heap.size < w2.heap.size; omega)).trans x0_2
      have x1_3 : w3.cell? ⟨w1.heap.size, 1, none⟩ = some (.int .u8 1) := (b3.cell (p := ⟨w1.heap.size, 1, none⟩) (by show w1.heap.size < w2.heap.size; omega)).trans x1_2
      have x2_3 : w3.cell? ⟨w1.heap.size, 2, none⟩ = some (.int .u8 X) := (b3.cell (p := ⟨w1.heap.size, 2, none⟩) (by show w1.heap.size < w2.heap.size; omega)).trans x2_2
      have zx_3 : w1.heap.size < w3.heap.size := Nat.lt_of_lt_of_le zx_2 b3.size
      clear hb b3 d2 k2 rg_2 zrg_2 rh_2 zrh_2 g0_2 zg_2 h0_2 zh_2 x0_2 x1_2 x2_2 zx_2
      as_aux_lemma =>
        go_wp2_with (refine wpList_load_wide 29 _ rfl (by rfl) _ _ rfl F2.toArray _ Tryd.underlying29 rfl HJ2.out ?_ ?_; · (repeat (first | with_reducible exact rg_3 | refine World.rangeAt_alloc ?_ _)))
        refine (step_is F2.toArray K1 s2 X D2 K2 T2 (K1, s2, X) true _ HFa2.out (HA.out.below (by (repeat' (first | with_reducible exact d3 | refine Below.setCell ?_ (by first | omega | (simp; done) | (simp; omega)) _ | refine Below.alloc ?_ (by first | omega | (simp; done) | (simp; omega)) _)))) hK1 hX1 hD2.1 (hs2.out ▸ (again_st ha.out).2.2) (hs2.out ▸ (again_st ha.out).2.1)).mono ?_
        rintro e w4 ⟨rfl, hb⟩
        have b4 : Below w3.heap.size w3 w4 := bthen (by (repeat' (first | exact Below.refl _ _ | refine Below.setCell ?_ (by first | omega | (simp; done) | (simp; omega)) _ | refine Below.alloc ?_ (by first | omega | (simp; done) | (simp; omega)) _))) hb
        have d4 : Below w.heap.size w w4 := bthen d3 b4
        have k4 : w.heap.size ≤ w4.heap.size := d4.size
        have rg_4 : w4.rangeAt (b8) 1 (F2.toArray).toList := range_below b4 (by omega) rg_3
        have zrg_4 : b8 < w4.heap.size := Nat.lt_of_lt_of_le zrg_3 b4.size
        have rh_4 : w4.rangeAt (b9) 1 (F3.toArray).toList := range_below b4 (by omega) rh_3
        have zrh_4 : b9 < w4.heap.size := Nat.lt_of_lt_of_le zrh_3 b4.size
        have g0_4 : w4.cell? ⟨b8, 0, none⟩ = some (.int .u8 D2) := (b4.cell (p := ⟨b8, 0, none⟩) (by show b8 < w3.heap.size; omega)).trans g0_3
        have zg_4 : b8 < w4.heap.size := Nat.lt_of_lt_of_le zg_3 b4.size
        have h0_4 : w4.cell? ⟨b9, 0, none⟩ = some (.int .u8 D3) := (b4.cell (p := ⟨b9, 0, none⟩) (by show b9 < w3.heap.size; omega)).trans h0_3
        have zh_4 : b9 < w4.heap.size := Nat.lt_of_lt_of_le zh_3 b4.size
        have x0_4 : w4.cell? ⟨w1.heap.size, 0, none⟩ = some (.int .u8 K1) := (b4.cell (p := ⟨w1.heap.size, 0, none⟩) (by show w1.heap.size < w3.heap.size; omega)).trans x0_3
        have x1_4 : w4.cell? ⟨w1.heap.size, 1, none⟩ = some (.int .u8 1) := (b4.cell (p := ⟨w1.heap.size, 1, none⟩) (by show w1.heap.size < w3.heap.size; omega)).trans x1_3
        have x2_4 : w4.cell? ⟨w1.heap.size, 2, none⟩ = some (.int .u8 X) := (b4.cell (p := ⟨w1.heap.size, 2, none⟩) (by show w1.heap.size < w3.heap.size; omega)).trans x2_3
        have zx_4 : w1.heap.size < w4.heap.size := Nat.lt_of_lt_of_le zx_3 b4.size
        have y0_4 : w4.cell? ⟨w3.heap.size, 0, none⟩ = some (.int .u8 K1) := (hb.cell (p := ⟨w3.heap.size, 0, none⟩) (by first | (simp; done) | (simp; omega))).trans (by simp [go_sem])
        have y1_4 : w4.cell? ⟨w3.heap.size, 1, none⟩ = some (.int .u8 s2) := (hb.cell (p := ⟨w3.heap.size, 1, none⟩) (by first | (simp; done) | (simp; omega))).trans (by simp [go_sem])
        have y2_4 : w4.cell? ⟨w3.heap.size, 2, none⟩ = some (.int .u8 X) := (hb.cell (p := ⟨w3.heap.size, 2, none⟩) (by first | (simp; done) | (simp; omega))).trans (by simp [go_sem])
        have zy_4 : w3.heap.size < w4.heap.size := by have := hb.size; simp at this; omega
        clear hb b4 d3 k3 rg_3 zrg_3 rh_3 zrh_3 g0_3 zg_3 h0_3 zh_3 x0_3 x1_3 x2_3 zx_3
        as_aux_lemma =>
          clear g0_4 zg_4 rg_4 zrg_4
          go_wp2_with (refine wpList_load_wide 29 _ rfl (by rfl) _ _ rfl F3.toArray _ Tryd.underlying29 rfl HJ3.out ?_ ?_; · (repeat (first | with_reducible exact rh_4 | refine World.rangeAt_alloc ?_ _)))
          refine (step_is F3.toArray K1 1 X D3 K3 T3 (e1, e2, e3) b3 _ HFa3.out (HA.out.below (by (repeat' (first | with_reducible exact d4 | refine Below.setCell ?_ (by first | omega | (simp; done) | (simp; omega)) _ | refine Below.alloc ?_ (by first | omega | (simp; done) | (simp; omega)) _)))) hK1 hX1 hD3.1 HE.out hb3.out).mono ?_
          rintro e w5 ⟨rfl, hb⟩
          have b5 : Below w4.heap.size w4 w5 := bthen (by (repeat' (first | exact Below.refl _ _ | refine Below.setCell ?_ (by first | omega | (simp; done) | (simp; omega)) _ | refine Below.alloc ?_ (by first | omega | (simp; done) | (simp; omega)) _))) hb
          have d5 : Below w.heap.size w w5 := bthen d4 b5
          have k5 : w.heap.size ≤ w5.heap.size := d5.size
          have rh_5 : w5.rangeAt (b9) 1 (F3.toArray).toList := range_below b5 (by omega) rh_4
          have zrh_5 : b9 < w5.heap.size := Nat.lt_of_lt_of_le zrh_4 b5.size
          have h0_5 : w5.cell? ⟨b9, 0, none⟩ = some (.int .u8 D3) := (b5.cell (p := ⟨b9, 0, none⟩) (by show b9 < w4.heap.size; omega)).trans h0_4
          have zh_5 : b9 < w5.heap.size := Nat.lt_of_lt_of_le zh_4 b5.size
          have x0_5 : w5.cell? ⟨w1.heap.size, 0, none⟩ = some (.int .u8 K1) := (b5.cell (p := ⟨w1.heap.size, 0, none⟩) (by show w1.heap.size < w4.heap.size; omega)).trans x0_4
          have x1_5 : w5.cell? ⟨w1.heap.size, 1, none⟩ = some (.int .u8 1) := (b5.cell (p := ⟨w1.heap.size, 1, none⟩) (by show w1.heap.size < w4.heap.size; omega)).trans x1_4
          have x2_5 : w5.cell? ⟨w1.heap.size, 2, none⟩ = some (.int .u8 X) := (b5.cell (p := ⟨w1.heap.size, 2, none⟩) (by show w1.heap.size < w4.heap.size; omega)).trans x2_4
          have zx_5 : w1.heap.size < w5.heap.size := Nat.lt_of_lt_of_le zx_4 b5.size
          have y0_5 : w5.cell? ⟨w3.heap.size, 0, none⟩ = some (.int .u8 K1) := (b5.cell (p := ⟨w3.heap.size, 0, none⟩) (by show w3.heap.size < w4.heap.size; omega)).trans y0_4
          have y1_5 : w5.cell? ⟨w3.heap.size, 1, none⟩ = some (.int .u8 s2) := (b5.cell (p := ⟨w3.heap.size, 1, none⟩) (by show w3.heap.size < w4.heap.size; omega)).trans y1_4
          have y2_5 : w5.cell? ⟨w3.heap.size, 2, none⟩ = some (.int .u8 X) := (b5.cell (p := ⟨w3.heap.size, 2, none⟩) (by show w3.heap.size < w4.heap.size; omega)).trans y2_4
          have zy_5 : w3.heap.size < w5.heap.size := Nat.lt_of_lt_of_le zy_4 b5.size
          have z0_5 : w5.cell? ⟨w4.heap.size, 0, none⟩ = some (.int .u8 K1) := (hb.cell (p := ⟨w4.heap.size, 0, none⟩) (by first | (simp; done) | (simp; omega))).trans (by simp [go_sem])
          have z1_5 : w5.cell? ⟨w4.heap.size, 1, none⟩ = some (.int .u8 s2) := (hb.cell (p := ⟨w4.heap.size, 1, none⟩) (by first | (simp; done) | (simp; omega))).trans (by simp [go_sem])
          have z2_5 : w5.cell? ⟨w4.heap.size, 2, none⟩ = some (.int .u8 X) := (hb.cell (p := ⟨w4.heap.size, 2, none⟩) (by first | (simp; done) | (simp; omega))).trans (by simp [go_sem])
          have zz_5 : w4.heap.size < w5.heap.size := by have := hb.size; simp at this; omega
          clear hb b5 d4 k4 rh_4 zrh_4 h0_4 zh_4 x0_4 x1_4 x2_4 zx_4 y0_4 y1_4 y2_4 zy_4
          as_aux_lemma =>
            clear x0_5 x1_5 x2_5 zx_5
            go_wp2_with (refine wpList_load_wide 29 _ rfl (by rfl) _ _ rfl F3.toArray _ Tryd.underlying29 rfl HJ3.out ?_ ?_; · (repeat (first | with_reducible exact rh_5 | refine World.rangeAt_alloc ?_ _)))
            refine (step_is F3.toArray K1 s2 X D3 K3 T3 (g1, g2, g3) b3 _ HFa3.out (HA.out.below (by (repeat' (first | with_reducible exact d5 | refine Below.setCell ?_ (by first | omega | (simp; done) | (simp; omega)) _ | refine Below.alloc ?_ (by first | omega | (simp; done) | (simp; omega)) _)))) hK1 hX1 hD3.1 HG.out ((alw_s K1 s2 1 X D3 K3 T3 (by rw [← hs2.out]; split <;> simp) (.inl rfl)).trans hb3.out)).mono ?_
            rintro e w6 ⟨rfl, hb⟩
            have b6 : Below w5.heap.size w5 w6 := bthen (by (repeat' (first | exact Below.refl _ _ | refine Below.setCell ?_ (by first | omega | (simp; done) | (simp; omega)) _ | refine Below.alloc ?_ (by first | omega | (simp; done) | (simp; omega)) _))) hb
            have d6 : Below w.heap.size w w6 := bthen d5 b6
            have k6 : w.heap.size ≤ w6.heap.size := d6.size
            have rh_6 : w6.rangeAt (b9) 1 (F3.toArray).toList := range_below b6 (by omega) rh_5
            have zrh_6 : b9 < w6.heap.size := Nat.lt_of_lt_of_le zrh_5 b6.size
            have h0_6 : w6.cell? ⟨b9, 0, none⟩ = some (.int .u8 D3) := (b6.cell (p := ⟨b9, 0, none⟩) (by show b9 < w5.heap.size; omega)).trans h0_5
            have zh_6 : b9 < w6.heap.size := Nat.lt_of_lt_of_le zh_5 b6.size
            have y0_6 : w6.cell? ⟨w3.heap.size, 0, none⟩ = some (.int .u8 K1) := (b6.cell (p := ⟨w3.heap.size, 0, none⟩) (by show w3.heap.size < w5.heap.size; omega)).trans y0_5
            have y1_6 : w6.cell? ⟨w3.heap.size, 1, none⟩ = some (.int .u8 s2) := (b6.cell (p := ⟨w3.heap.size, 1, none⟩) (by show w3.heap.size < w5.heap.size; omega)).trans y1_5
            have y2_6 : w6.cell? ⟨w3.heap.size, 2, none⟩ = some (.int .u8 X) := (b6.cell (p := ⟨w3.heap.size, 2, none⟩) (by show w3.heap.size < w5.heap.size; omega)).trans y2_5
            have zy_6 : w3.heap.size < w6.heap.size := Nat.lt_of_lt_of_le zy_5 b6.size
            have z0_6 : w6.cell? ⟨w4.heap.size, 0, none⟩ = some (.int .u8 K1) := (b6.cell (p := ⟨w4.heap.size, 0, none⟩) (by show w4.heap.size < w5.heap.size; omega)).trans z0_5
            have z1_6 : w6.cell? ⟨w4.heap.size, 1, none⟩ = some (.int .u8 s2) := (b6.cell (p := ⟨w4.heap.size, 1, none⟩) (by show w4.heap.size < w5.heap.size; omega)).trans z1_5
            have z2_6 : w6.cell? ⟨w4.heap.size, 2, none⟩ = some (.int .u8 X) := (b6.cell (p := ⟨w4.heap.size, 2, none⟩) (by show w4.heap.size < w5.heap.size; omega)).trans z2_5
            have zz_6 : w4.heap.size < w6.heap.size := Nat.lt_of_lt_of_le zz_5 b6.size
            clear hb b6 d5 k5 rh_5 zrh_5 h0_5 zh_5 y0_5 y1_5 y2_5 zy_5 z0_5 z1_5 z2_5 zz_5
            as_aux_lemma =>
              go_wp2_with fail
              go_ret
              exact ⟨by first | rfl | simp, (by (repeat' (first | with_reducible exact d6 | refine Below.setCell ?_ (by first | omega | (simp; done) | (simp; omega)) _ | refine Below.alloc ?_ (by first | omega | (simp; done) | (simp; omega)) _)))⟩

theorem streamAgain_walk (d1 k1 t1 d2 k2 t2 d3 k3 t3 : Int) (w : World) (hA : Ans w) (h1 : (0 ≤ d1 ∧ d1 ≤ 255) ∧ (0 ≤ k1 ∧ k1 ≤ 255) ∧ (0 ≤ t1 ∧ t1 ≤ 255)) (h2 : (0 ≤ d2 ∧ d2 ≤ 255) ∧ (0 ≤ k2 ∧ k2 ≤ 255) ∧ (0 ≤ t2 ∧ t2 ≤ 255)) (h3 : (0 ≤ d3 ∧ d3 ≤ 255) ∧ (0 ≤ k3 ∧ k3 ≤ 255) ∧ (0 ≤ t3 ∧ t3 ≤ 255)) :
    Calls Tryd.prog 4 #[.agg #[.int .u8 d1, .int .u8 k1, .int .u8 t1], .agg #[.int .u8 d2, .int .u8 k2, .int .u8 t2], .agg #[.int .u8 d3, .int .u8 k3, .int .u8 t3]] w fun e w' => e = .returned (.bool true) ∧ Below w.heap.size w w' := by
  obtain ⟨hd1, hk1, ht1⟩ := h1
  have K1 := kdW_range k1 hk1.1
  have T1 := tyW_range t1 ht1
  have A1 := fa_sF (kdW k1) k1 (tyW t1) (by omega) T1
  obtain ⟨hd2, hk2, ht2⟩ := h2
  have K2 := kdW_range k2 hk2.1
  have T2 := tyW_range t2 ht2
  have A2 := fa_sF (kdW k2) k2 (tyW t2) (by omega) T2
  obtain ⟨hd3, hk3, ht3⟩ := h3
  have K3 := kdW_range k3 hk3.1
  have T3 := tyW_range t3 ht3
  have A3 := fa_sF (kdW k3) k3 (tyW t3) (by omega) T3
  cases ho : opens (kdW k1) (tyW t1)
  · exact again_noopen d1 k1 t1 d2 k2 t2 d3 k3 t3 _ _ _ _ _ _ _ _ _ _ _ _ _ _ _  w hA (show _ from fun w => seen_any d1 k1 t1 w hd1 hk1 ht1) rfl A1 rfl (show _ = _ by simp [sF, Value.oneCell']) (by omega) (by omega) T1 (show _ from fun w => seen_any d2 k2 t2 w hd2 hk2 ht2) rfl A2 rfl (show _ = _ by simp [sF, Value.oneCell']) (by omega) (by omega) T2 (show _ from fun w => seen_any d3 k3 t3 w hd3 hk3 ht3) rfl A3 rfl (show _ = _ by simp [sF, Value.oneCell']) (by omega) (by omega) T3 ho
  · cases ha : alw (kdW k1) 1 (typOf (kdW k1) (tyW t1)) (d2 % 2) (kdW k2) (tyW t2)
    · exact again_no2 d1 k1 t1 d2 k2 t2 d3 k3 t3 _ _ _ _ _ _ _ _ _ _ _ _ _ _ _  _ w hA (show _ from fun w => seen_any d1 k1 t1 w hd1 hk1 ht1) rfl A1 rfl (show _ = _ by simp [sF, Value.oneCell']) (by omega) (by omega) T1 (show _ from fun w => seen_any d2 k2 t2 w hd2 hk2 ht2) rfl A2 rfl (show _ = _ by simp [sF, Value.oneCell']) (by omega) (by omega) T2 (show _ from fun w => seen_any d3 k3 t3 w hd3 hk3 ht3) rfl A3 rfl (show _ = _ by simp [sF, Value.oneCell']) (by omega) (by omega) T3 ho rfl ha
    · exact again_yes d1 k1 t1 d2 k2 t2 d3 k3 t3 _ _ _ _ _ _ _ _ _ _ _ _ _ _ _  _ _ _ w hA (show _ from fun w => seen_any d1 k1 t1 w hd1 hk1 ht1) rfl A1 rfl (show _ = _ by simp [sF, Value.oneCell']) (by omega) (by omega) T1 (show _ from fun w => seen_any d2 k2 t2 w hd2 hk2 ht2) rfl A2 rfl (show _ = _ by simp [sF, Value.oneCell']) (by omega) (by omega) T2 (show _ from fun w => seen_any d3 k3 t3 w hd3 hk3 ht3) rfl A3 rfl (show _ = _ by simp [sF, Value.oneCell']) (by omega) (by omega) T3 ho rfl ha rfl rfl

end Go.Proofs.YtjmcpgagbjmfgaaDoor
