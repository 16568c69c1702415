/-
  The walk of TimeoutWrong: timeouts, scales, classes and numbers that there are not are rejected.
-/
import Derived.Test.YtkcgijkccpiljaaDoorBasesL
import Derived.Test.YtkcgijkccpiljaaDoorScales
import Derived.Test.YtkcgijkccpiljaaDoorLawMost
import Derived.Great.BuildSlice
namespace Go.Proofs.YtkcgijkccpiljaaDoor
open Go.RowKit
set_option linter.unusedVariables false
set_option linter.unusedSimpArgs false

/-- A slice literal of one-celled elements, every place written. -/
theorem wpList_buildFew {P : Program} {ops : Array Oper} {rest : List Oper} {o : Oper} {a : Act} {w : World} {Q : Exit → Act → World → Prop} (hg : o.guard = none) (t e : TypeId) (len : Nat) (parts : Array (Nat × Operand)) (ho : o.op = .buildSlice t len parts) (E : Array Value) (vs : List Value) (hE : E.toList = vs)
    (N : Nat) (hN : w.heap.size = N) (d : Option Tmp) (hd : o.dst = d) (z : Value) (hu : P.underlying t = some (.slice e)) (hi : (P.info? e).map (fun i => (i.zero, i.size)) = some (some z, 1)) (hsmall : len ≤ 2 ^ 24) (hlen : vs.length = len) (hpos : 0 < len)
    (hparts : (parts.map fun (i, x) => (i, a.eval x)).toList = (vs.zipIdx 0).map fun x => (x.2, x.1)) (he : ∀ v ∈ vs, v.cells = #[v])
    (h : wpList P ops Q rest (a.put d (.slice (some ⟨N, 0, none⟩) len len)) (w.alloc (.cells E e))) : wpList P ops Q (o :: rest) a w := by
  subst hN hd hlen hE
  obtain ⟨ie, hie, hj⟩ := Option.map_eq_some_iff.1 hi
  injection hj with hz hs
  have h1 : E.toList.length * ie.size = E.toList.length := by rw [hs, Nat.mul_one]
  refine wpList_buildSlice hg t e _ parts ho E ie z hu hie hz (by omega) (by omega) ?_ h
  rw [hparts, hs, Great.fill_whole (by omega) _ _ (fun v hv => by rw [he v hv]; rfl) (by simp)]
  congr 1
  have : (E.toList.flatMap fun v => v.cells.toList) = E.toList := by
    have key : ∀ l : List Value, (∀ v ∈ l, v.cells = #[v]) → (l.flatMap fun v => v.cells.toList) = l := by
      intro l
      induction l with
      | nil => intro _; rfl
      | cons x r ih => intro h; rw [List.flatMap_cons, h x (List.mem_cons_self ..), ih (fun v hv => h v (List.mem_cons_of_mem _ hv))]; rfl
    exact key _ he
  rw [this]
theorem info31 : (Tryd.prog.info? 31).map (fun i => (i.zero, i.size)) = some (some (.int .i64 0), 1) := by kernel_rfl
/-- A cell of a row is written. -/
theorem range_put {W : World} {B : Nat} {T : List Value} (h : W.rangeAt B 0 T) (i : Nat) (v : Value) : (W.setCell ⟨B, i, none⟩ v).rangeAt B 0 (T.set i v) := fun j u hu => by
  rw [Nat.zero_add]
  by_cases hij : i = j
  · subst hij
    have hl : i < T.length := by
      have := (List.getElem?_eq_some_iff.1 hu).1
      simpa using this
    rw [List.getElem?_set_self hl] at hu
    cases hu
    have hx := h i _ (List.getElem?_eq_getElem hl)
    rw [Nat.zero_add] at hx
    rw [World.cell?_setCell_same' _ _ _ (by rw [hx]; rfl)]
  · rw [List.getElem?_set_ne hij] at hu
    rw [World.cell?_setCell_other _ _ _ _ (fun e => hij (by injection e))]
    have := h j u hu
    rwa [Nat.zero_add] at this
theorem range_apart {W : World} {B M i : Nat} {T : List Value} (h : W.rangeAt B 0 T) (hne : B ≠ M) (v : Value) : (W.setCell ⟨M, i, none⟩ v).rangeAt B 0 T := fun j u hu => by
  rw [World.cell?_setCell_other _ _ _ _ (fun e => hne (by injection e with e; exact e.symm))]
  exact h j u hu

set_option maxRecDepth 100000 in
set_option maxHeartbeats 8000000 in
theorem wrong_core (n1 n2 n3 x c t s e m0 mT mN mE mD mQ mS cr : Int) (i : Nat) (A Bd Lg : Array Value) (z : Nat → Int) (w : World) (HT : Hid (Tab w)) (hx : B64 x) (hc : 0 ≤ c ∧ c ≤ 255) (ht : 1 ≤ t ∧ t ≤ 16777215) (hse : 0 ≤ s ∧ s < 5000 ∧ s < e ∧ e ≤ 10000)
    (hA : Hid (#[.int .i64 1, .int .i64 1, .int .i64 1, .int .i64 1, .int .i64 1, .int .i64 1, .int .i64 1, .int .i64 1, .int .i64 t] = A)) (hi : i < 9) (hci : c % 9 = i) (hcr : c % 247 = cr) (hcr0 : 0 ≤ cr) (hcr1 : cr < 247) (hBd : Hid (([.int .i64 1, .int .i64 1, .int .i64 1, .int .i64 1, .int .i64 1, .int .i64 1, .int .i64 1, .int .i64 1, .int .i64 t].set i (.int .i64 m0)).toArray = Bd)) (hLg : Hid (([.int .i64 1, .int .i64 1, .int .i64 1, .int .i64 1, .int .i64 1, .int .i64 1, .int .i64 1, .int .i64 1, .int .i64 t].set i (.int .i64 mT)).toArray = Lg)) (zBd : Hid (Bd.size = 9)) (zLg : Hid (Lg.size = 9))
    (q0 : (if 0 < x then 0 else x) = m0) (qT : (if x < 16777216 then 16777216 else x) = mT) (qN : (if -1 < x then -1 else x) = mN) (qE : (if x < e then e else x) = mE) (qD : (if x < 1099511627777 then 1099511627777 else x) = mD) (qQ : (if x < t + 1 then t + 1 else x) = mQ) (qS : (if x < 1048577 then 1048577 else x) = mS)
    (HM : Hid (∀ W, Calls Tryd.prog 15 #[.agg #[.int .i64 n1, .int .i64 n2, .int .i64 n3]] W fun r w' => r = .returned (.tuple #[.int .i64 t, .agg #[.int .i64 s, .int .i64 e]]) ∧ Below W.heap.size W w'))
    (HS1 : Hid (∀ W, Calls Tryd.prog 17 #[.int .i64 m0, .agg #[.int .i64 s, .int .i64 e], .int .i64 0] W fun r w' => r = .returned (.tuple #[.int .i64 0, .int .i64 2]) ∧ Below W.heap.size W w'))
    (HS2 : Hid (∀ W, Calls Tryd.prog 17 #[.int .i64 mT, .agg #[.int .i64 s, .int .i64 e], .int .i64 0] W fun r w' => r = .returned (.tuple #[.int .i64 0, .int .i64 2]) ∧ Below W.heap.size W w'))
    (HS3 : Hid (∀ W, Calls Tryd.prog 17 #[.int .i64 t, .agg #[.int .i64 s, .int .i64 e], .int .i64 mN] W fun r w' => r = .returned (.tuple #[.int .i64 0, .int .i64 2]) ∧ Below W.heap.size W w'))
    (HS4 : Hid (∀ W, Calls Tryd.prog 17 #[.int .i64 t, .agg #[.int .i64 s, .int .i64 e], .int .i64 mE] W fun r w' => r = .returned (.tuple #[.int .i64 0, .int .i64 2]) ∧ Below W.heap.size W w'))
    (HS5 : Hid (∀ W, Calls Tryd.prog 17 #[.int .i64 t, .agg #[.int .i64 e, .int .i64 e], .int .i64 0] W fun r w' => r = .returned (.tuple #[.int .i64 0, .int .i64 2]) ∧ Below W.heap.size W w'))
    (HS6 : Hid (∀ W, Calls Tryd.prog 17 #[.int .i64 t, .agg #[.int .i64 mN, .int .i64 e], .int .i64 0] W fun r w' => r = .returned (.tuple #[.int .i64 0, .int .i64 2]) ∧ Below W.heap.size W w'))
    (HO1 : Hid (∀ W, Calls Tryd.prog 25 #[.agg Bd, .int .u8 i, .agg #[.int .i64 s, .int .i64 e], .int .i64 0] W fun r w' => r = .returned (.tuple #[.int .i64 0, .int .i64 2]) ∧ Below W.heap.size W w'))
    (HA1 : Hid (∀ W, Calls Tryd.prog 23 #[.agg Lg, .agg #[.int .i64 s, .int .i64 e], .int .i64 0] W fun r w' => r = .returned (.tuple #[.agg #[.int .i64 (z 0), .int .i64 (z 1), .int .i64 (z 2), .int .i64 (z 3), .int .i64 (z 4), .int .i64 (z 5), .int .i64 (z 6), .int .i64 (z 7), .int .i64 (z 8)], .int .i64 2]) ∧ Below W.heap.size W w'))
    (HO2 : Hid (∀ W, Calls Tryd.prog 25 #[.agg A, .int .u8 (9 + cr), .agg #[.int .i64 s, .int .i64 e], .int .i64 0] W fun r w' => r = .returned (.tuple #[.int .i64 0, .int .i64 2]) ∧ Below W.heap.size W w'))
    (HD1 : Hid (∀ W, Calls Tryd.prog 26 #[.int .i64 mN, .int .i64 t] W fun r w' => r = .returned (.tuple #[.int .i64 0, .int .i64 2]) ∧ Below W.heap.size W w'))
    (HD2 : Hid (∀ W, Calls Tryd.prog 26 #[.int .i64 mD, .int .i64 t] W fun r w' => r = .returned (.tuple #[.int .i64 0, .int .i64 2]) ∧ Below W.heap.size W w'))
    (HD3 : Hid (∀ W, Calls Tryd.prog 26 #[.int .i64 0, .int .i64 m0] W fun r w' => r = .returned (.tuple #[.int .i64 0, .int .i64 2]) ∧ Below W.heap.size W w'))
    (HM1 : Hid (∀ W, Calls Tryd.prog 18 #[.int .i64 t, .agg #[.int .i64 s, .int .i64 e], .int .i64 mQ] W fun r w' => r = .returned (.tuple #[.int .i64 0, .int .i64 2]) ∧ Below W.heap.size W w'))
    (HM2 : Hid (∀ W, Calls Tryd.prog 18 #[.int .i64 t, .agg #[.int .i64 s, .int .i64 e], .int .i64 m0] W fun r w' => r = .returned (.tuple #[.int .i64 0, .int .i64 2]) ∧ Below W.heap.size W w'))
    (HR1 : Hid (∀ W, Calls Tryd.prog 24 #[.agg Bd] W fun r w' => r = .returned (.bool false) ∧ Below W.heap.size W w'))
    (HR2 : Hid (∀ W, Calls Tryd.prog 24 #[.agg Lg] W fun r w' => r = .returned (.bool false) ∧ Below W.heap.size W w'))
    (HR3 : Hid (∀ W, Calls Tryd.prog 24 #[.agg A] W fun r w' => r = .returned (.bool true) ∧ Below W.heap.size W w'))
    (HQ1 : Hid (∀ W, Calls Tryd.prog 27 #[.agg #[.int .i64 s, .int .i64 e]] W fun r w' => r = .returned (.bool true) ∧ Below W.heap.size W w'))
    (HQ2 : Hid (∀ W, Calls Tryd.prog 27 #[.agg #[.int .i64 0, .int .i64 mS]] W fun r w' => r = .returned (.bool false) ∧ Below W.heap.size W w'))
    : Calls Tryd.prog 11 #[.agg #[.int .i64 n1, .int .i64 n2, .int .i64 n3], .int .i64 x, .int .u8 c] w fun r w' => r = .returned (.bool true) ∧ Below w.heap.size w w' := by
  have zA : Hid (A.size = 9) := by rw [← hA.out]; exact (show _ = _ from rfl)
  have oA : Hid (A.all (·.oneCell') = true) := by rw [← hA.out]; exact (show _ = _ by simp [Value.oneCell'])
  have IA : Hid ((Tryd.prog.info? 42).map (·.size) = some A.toList.length) := by rw [Array.length_toList, zA.out]; exact info42
  have JA : Hid ((Tryd.prog.info? 42).map (·.size) = some A.size) := by rw [zA.out]; exact info42
  have IB : Hid ((Tryd.prog.info? 42).map (·.size) = some Bd.toList.length) := by rw [Array.length_toList, zBd.out]; exact info42
  have IL : Hid ((Tryd.prog.info? 42).map (·.size) = some Lg.toList.length) := by rw [Array.length_toList, zLg.out]; exact info42
  have hlA : Hid (A.toList.length = 9) := by rw [Array.length_toList]; exact zA.out
  have i0 : (0 : Int) ≤ (i : Int) := by omega
  have i9 : (i : Int) < 9 := by omega
  have t1 : 1 ≤ t ∧ t ≤ 16777215 := ht
  go_enter Tryd.func11, Tryd.ntmps11
  go_wp2_with fail
  refine (awake_any _ (HT.out.below (by (repeat' (first | exact Below.refl _ _ | refine Below.setCell ?_ (by first | omega | (simp; done) | (simp; omega)) _ | refine Below.alloc ?_ (by first | omega | (simp; done) | (simp; omega)) _))))).mono ?_
  rintro r w1 ⟨rfl, hb⟩
  have d1 : Below w.heap.size w w1 := bthen (by (repeat' (first | exact Below.refl _ _ | refine Below.setCell ?_ (by first | omega | (simp; done) | (simp; omega)) _ | refine Below.alloc ?_ (by first | omega | (simp; done) | (simp; omega)) _))) hb
  have p0 : w1.cell? ⟨w.heap.size, 0, none⟩ = some (.int .i64 n1) := (hb.cell (p := ⟨w.heap.size, 0, none⟩) (by simp)).trans (by simp [go_sem])
  have p1 : w1.cell? ⟨w.heap.size, 1, none⟩ = some (.int .i64 n2) := (hb.cell (p := ⟨w.heap.size, 1, none⟩) (by simp)).trans (by simp [go_sem])
  have p2 : w1.cell? ⟨w.heap.size, 2, none⟩ = some (.int .i64 n3) := (hb.cell (p := ⟨w.heap.size, 2, none⟩) (by simp)).trans (by simp [go_sem])
  clear hb
  go_wp2_with fail
  refine (HM.out _).mono ?_
  rintro r w2 ⟨rfl, hb⟩
  have d2 := bthen d1 hb
  have k2 := d2.size
  clear hb p0 p1 p2 d1
  go_wp2_with fail
  rw [hBd.out, hLg.out, hA.out]
  refine (HS1.out _).mono ?_
  rintro e w3 ⟨rfl, hb⟩
  have b3 : Below w2.heap.size w2 w3 := bthen (by (repeat' (first | exact Below.refl _ _ | refine Below.setCell ?_ (by first | omega | (simp; done) | (simp; omega)) _ | refine Below.alloc ?_ (by first | omega | (simp; done) | (simp; omega)) _))) hb
  have d3 : Below w.heap.size w w3 := bthen d2 b3
  have k3 : w.heap.size ≤ w3.heap.size := d3.size
  have ba_3 : w3.rangeAt (w2.heap.size + 1) 0 (A).toList := range_below hb (by first | (simp; done) | (simp; omega)) (by (repeat (first | with_reducible assumption | (refine range_new' _ _ _ _ ?_; first | rfl | (simp; done)) | refine World.rangeAt_alloc ?_ _)))
  have zba_3 : w2.heap.size + 1 < w3.heap.size := by have := hb.size; simp at this; omega
  have bd_3 : w3.rangeAt (w2.heap.size + 1 + 1) 0 (Bd).toList := range_below hb (by first | (simp; done) | (simp; omega)) (by (repeat (first | with_reducible assumption | (refine range_new' _ _ _ _ ?_; first | rfl | (simp; done)) | refine World.rangeAt_alloc ?_ _)))
  have zbd_3 : w2.heap.size + 1 + 1 < w3.heap.size := by have := hb.size; simp at this; omega
  have bl_3 : w3.rangeAt (w2.heap.size + 1 + 1 + 1) 0 (Lg).toList := range_below hb (by first | (simp; done) | (simp; omega)) (by (repeat (first | with_reducible assumption | (refine range_new' _ _ _ _ ?_; first | rfl | (simp; done)) | refine World.rangeAt_alloc ?_ _)))
  have zbl_3 : w2.heap.size + 1 + 1 + 1 < w3.heap.size := by have := hb.size; simp at this; omega
  have v0_3 : w3.cell? ⟨w2.heap.size, 0, none⟩ = some (.int .i64 s) := (hb.cell (p := ⟨w2.heap.size, 0, none⟩) (by first | (simp; done) | (simp; omega))).trans (by simp [go_sem])
  have v1_3 : w3.cell? ⟨w2.heap.size, 1, none⟩ = some (.int .i64 e) := (hb.cell (p := ⟨w2.heap.size, 1, none⟩) (by first | (simp; done) | (simp; omega))).trans (by simp [go_sem])
  have zv_3 : w2.heap.size < w3.heap.size := by have := hb.size; simp at this; omega
  clear hb b3 d2 k2
  as_aux_lemma =>
    go_wp2_with fail
    refine (HS2.out _).mono ?_
    rintro e w4 ⟨rfl, hb⟩
    have b4 : Below w3.heap.size w3 w4 := bthen (by (repeat' (first | exact Below.refl _ _ | refine Below.setCell ?_ (by first | omega | (simp; done) | (simp; omega)) _ | refine Below.alloc ?_ (by first | omega | (simp; done) | (simp; omega)) _))) hb
    have d4 : Below w.heap.size w w4 := bthen d3 b4
    have k4 : w.heap.size ≤ w4.heap.size := d4.size
    have ba_4 : w4.rangeAt (w2.heap.size + 1) 0 (A).toList := range_below b4 (by omega) ba_3
    have zba_4 : w2.heap.size + 1 < w4.heap.size := Nat.lt_of_lt_of_le zba_3 b4.size
    have bd_4 : w4.rangeAt (w2.heap.size + 1 + 1) 0 (Bd).toList := range_below b4 (by omega) bd_3
    have zbd_4 : w2.heap.size + 1 + 1 < w4.heap.size := Nat.lt_of_lt_of_le zbd_3 b4.size
    have bl_4 : w4.rangeAt (w2.heap.size + 1 + 1 + 1) 0 (Lg).toList := range_below b4 (by omega) bl_3
    have zbl_4 : w2.heap.size + 1 + 1 + 1 < w4.heap.size := Nat.lt_of_lt_of_le zbl_3 b4.size
    have v0_4 : w4.cell? ⟨w2.heap.size, 0, none⟩ = some (.int .i64 s) := (b4.cell (p := ⟨w2.heap.size, 0, none⟩) (by show w2.heap.size < w3.heap.size; omega)).trans v0_3
    have v1_4 : w4.cell? ⟨w2.heap.size, 1, none⟩ = some (.int .i64 e) := (b4.cell (p := ⟨w2.heap.size, 1, none⟩) (by show w2.heap.size < w3.heap.size; omega)).trans v1_3
    have zv_4 : w2.heap.size < w4.heap.size := Nat.lt_of_lt_of_le zv_3 b4.size
    clear hb b4 d3 k3 ba_3 zba_3 bd_3 zbd_3 bl_3 zbl_3 v0_3 v1_3 zv_3
    as_aux_lemma =>
      go_wp2_with fail
      refine (HS3.out _).mono ?_
      rintro e w5 ⟨rfl, hb⟩
      have b5 : Below w4.heap.size w4 w5 := bthen (by (repeat' (first | exact Below.refl _ _ | refine Below.setCell ?_ (by first | omega | (simp; done) | (simp; omega)) _ | refine Below.alloc ?_ (by first | omega | (simp; done) | (simp; omega)) _))) hb
      have d5 : Below w.heap.size w w5 := bthen d4 b5
      have k5 : w.heap.size ≤ w5.heap.size := d5.size
      have ba_5 : w5.rangeAt (w2.heap.size + 1) 0 (A).toList := range_below b5 (by omega) ba_4
      have zba_5 : w2.heap.size + 1 < w5.heap.size := Nat.lt_of_lt_of_le zba_4 b5.size
      have bd_5 : w5.rangeAt (w2.heap.size + 1 + 1) 0 (Bd).toList := range_below b5 (by omega) bd_4
      have zbd_5 : w2.heap.size + 1 + 1 < w5.heap.size := Nat.lt_of_lt_of_le zbd_4 b5.size
      have bl_5 : w5.rangeAt (w2.heap.size + 1 + 1 + 1) 0 (Lg).toList := range_below b5 (by omega) bl_4
      have zbl_5 : w2.heap.size + 1 + 1 + 1 < w5.heap.size := Nat.lt_of_lt_of_le zbl_4 b5.size
      have v0_5 : w5.cell? ⟨w2.heap.size, 0, none⟩ = some (.int .i64 s) := (b5.cell (p := ⟨w2.heap.size, 0, none⟩) (by show w2.heap.size < w4.heap.size; omega)).trans v0_4
      have v1_5 : w5.cell? ⟨w2.heap.size, 1, none⟩ = some (.int .i64 e) := (b5.cell (p := ⟨w2.heap.size, 1, none⟩) (by show w2.heap.size < w4.heap.size; omega)).trans v1_4
      have zv_5 : w2.heap.size < w5.heap.size := Nat.lt_of_lt_of_le zv_4 b5.size
      clear hb b5 d4 k4 ba_4 zba_4 bd_4 zbd_4 bl_4 zbl_4 v0_4 v1_4 zv_4
      as_aux_lemma =>
        go_wp2_with fail
        refine (HS4.out _).mono ?_
        rintro e w6 ⟨rfl, hb⟩
        have b6 : Below w5.heap.size w5 w6 := bthen (by (repeat' (first | exact Below.refl _ _ | refine Below.setCell ?_ (by first | omega | (simp; done) | (simp; omega)) _ | refine Below.alloc ?_ (by first | omega | (simp; done) | (simp; omega)) _))) hb
        have d6 : Below w.heap.size w w6 := bthen d5 b6
        have k6 : w.heap.size ≤ w6.heap.size := d6.size
        have ba_6 : w6.rangeAt (w2.heap.size + 1) 0 (A).toList := range_below b6 (by omega) ba_5
        have zba_6 : w2.heap.size + 1 < w6.heap.size := Nat.lt_of_lt_of_le zba_5 b6.size
        have bd_6 : w6.rangeAt (w2.heap.size + 1 + 1) 0 (Bd).toList := range_below b6 (by omega) bd_5
        have zbd_6 : w2.heap.size + 1 + 1 < w6.heap.size := Nat.lt_of_lt_of_le zbd_5 b6.size
        have bl_6 : w6.rangeAt (w2.heap.size + 1 + 1 + 1) 0 (Lg).toList := range_below b6 (by omega) bl_5
        have zbl_6 : w2.heap.size + 1 + 1 + 1 < w6.heap.size := Nat.lt_of_lt_of_le zbl_5 b6.size
        have v0_6 : w6.cell? ⟨w2.heap.size, 0, none⟩ = some (.int .i64 s) := (b6.cell (p := ⟨w2.heap.size, 0, none⟩) (by show w2.heap.size < w5.heap.size; omega)).trans v0_5
        have v1_6 : w6.cell? ⟨w2.heap.size, 1, none⟩ = some (.int .i64 e) := (b6.cell (p := ⟨w2.heap.size, 1, none⟩) (by show w2.heap.size < w5.heap.size; omega)).trans v1_5
        have zv_6 : w2.heap.size < w6.heap.size := Nat.lt_of_lt_of_le zv_5 b6.size
        clear hb b6 d5 k5 ba_5 zba_5 bd_5 zbd_5 bl_5 zbl_5 v0_5 v1_5 zv_5
        as_aux_lemma =>
          go_wp2_with fail
          refine (HS5.out _).mono ?_
          rintro e w7 ⟨rfl, hb⟩
          have b7 : Below w6.heap.size w6 w7 := bthen (by (repeat' (first | exact Below.refl _ _ | refine Below.setCell ?_ (by first | omega | (simp; done) | (simp; omega)) _ | refine Below.alloc ?_ (by first | omega | (simp; done) | (simp; omega)) _))) hb
          have d7 : Below w.heap.size w w7 := bthen d6 b7
          have k7 : w.heap.size ≤ w7.heap.size := d7.size
          have ba_7 : w7.rangeAt (w2.heap.size + 1) 0 (A).toList := range_below b7 (by omega) ba_6
          have zba_7 : w2.heap.size + 1 < w7.heap.size := Nat.lt_of_lt_of_le zba_6 b7.size
          have bd_7 : w7.rangeAt (w2.heap.size + 1 + 1) 0 (Bd).toList := range_below b7 (by omega) bd_6
          have zbd_7 : w2.heap.size + 1 + 1 < w7.heap.size := Nat.lt_of_lt_of_le zbd_6 b7.size
          have bl_7 : w7.rangeAt (w2.heap.size + 1 + 1 + 1) 0 (Lg).toList := range_below b7 (by omega) bl_6
          have zbl_7 : w2.heap.size + 1 + 1 + 1 < w7.heap.size := Nat.lt_of_lt_of_le zbl_6 b7.size
          have v0_7 : w7.cell? ⟨w2.heap.size, 0, none⟩ = some (.int .i64 s) := (b7.cell (p := ⟨w2.heap.size, 0, none⟩) (by show w2.heap.size < w6.heap.size; omega)).trans v0_6
          have v1_7 : w7.cell? ⟨w2.heap.size, 1, none⟩ = some (.int .i64 e) := (b7.cell (p := ⟨w2.heap.size, 1, none⟩) (by show w2.heap.size < w6.heap.size; omega)).trans v1_6
          have zv_7 : w2.heap.size < w7.heap.size := Nat.lt_of_lt_of_le zv_6 b7.size
          clear hb b7 d6 k6 ba_6 zba_6 bd_6 zbd_6 bl_6 zbl_6 v0_6 v1_6 zv_6
          as_aux_lemma =>
            go_wp2_with fail
            refine (HS6.out _).mono ?_
            rintro e w8 ⟨rfl, hb⟩
            have b8 : Below w7.heap.size w7 w8 := bthen (by (repeat' (first | exact Below.refl _ _ | refine Below.setCell ?_ (by first | omega | (simp; done) | (simp; omega)) _ | refine Below.alloc ?_ (by first | omega | (simp; done) | (simp; omega)) _))) hb
            have d8 : Below w.heap.size w w8 := bthen d7 b8
            have k8 : w.heap.size ≤ w8.heap.size := d8.size
            have ba_8 : w8.rangeAt (w2.heap.size + 1) 0 (A).toList := range_below b8 (by omega) ba_7
            have zba_8 : w2.heap.size + 1 < w8.heap.size := Nat.lt_of_lt_of_le zba_7 b8.size
            have bd_8 : w8.rangeAt (w2.heap.size + 1 + 1) 0 (Bd).toList := range_below b8 (by omega) bd_7
            have zbd_8 : w2.heap.size + 1 + 1 < w8.heap.size := Nat.lt_of_lt_of_le zbd_7 b8.size
            have bl_8 : w8.rangeAt (w2.heap.size + 1 + 1 + 1) 0 (Lg).toList := range_below b8 (by omega) bl_7
            have zbl_8 : w2.heap.size + 1 + 1 + 1 < w8.heap.size := Nat.lt_of_lt_of_le zbl_7 b8.size
            have v0_8 : w8.cell? ⟨w2.heap.size, 0, none⟩ = some (.int .i64 s) := (b8.cell (p := ⟨w2.heap.size, 0, none⟩) (by show w2.heap.size < w7.heap.size; omega)).trans v0_7
            have v1_8 : w8.cell? ⟨w2.heap.size, 1, none⟩ = some (.int .i64 e) := (b8.cell (p := ⟨w2.heap.size, 1, none⟩) (by show w2.heap.size < w7.heap.size; omega)).trans v1_7
            have zv_8 : w2.heap.size < w8.heap.size := Nat.lt_of_lt_of_le zv_7 b8.size
            clear hb b8 d7 k7 ba_7 zba_7 bd_7 zbd_7 bl_7 zbl_7 v0_7 v1_7 zv_7
            as_aux_lemma =>
              go_wp2_with (first | (refine wpList_load_wide 42 _ rfl (by rfl) _ _ rfl Bd _ Tryd.underlying42 rfl IB.out ?_ ?_; · (repeat (first | with_reducible exact bd_8 | refine World.rangeAt_alloc ?_ _))))
              refine (HO1.out _).mono ?_
              rintro e w9 ⟨rfl, hb⟩
              have b9 : Below w8.heap.size w8 w9 := bthen (by (repeat' (first | exact Below.refl _ _ | refine Below.setCell ?_ (by first | omega | (simp; done) | (simp; omega)) _ | refine Below.alloc ?_ (by first | omega | (simp; done) | (simp; omega)) _))) hb
              have d9 : Below w.heap.size w w9 := bthen d8 b9
              have k9 : w.heap.size ≤ w9.heap.size := d9.size
              have ba_9 : w9.rangeAt (w2.heap.size + 1) 0 (A).toList := range_below b9 (by omega) ba_8
              have zba_9 : w2.heap.size + 1 < w9.heap.size := Nat.lt_of_lt_of_le zba_8 b9.size
              have bd_9 : w9.rangeAt (w2.heap.size + 1 + 1) 0 (Bd).toList := range_below b9 (by omega) bd_8
              have zbd_9 : w2.heap.size + 1 + 1 < w9.heap.size := Nat.lt_of_lt_of_le zbd_8 b9.size
              have bl_9 : w9.rangeAt (w2.heap.size + 1 + 1 + 1) 0 (Lg).toList := range_below b9 (by omega) bl_8
              have zbl_9 : w2.heap.size + 1 + 1 + 1 < w9.heap.size := Nat.lt_of_lt_of_le zbl_8 b9.size
              have v0_9 : w9.cell? ⟨w2.heap.size, 0, none⟩ = some (.int .i64 s) := (b9.cell (p := ⟨w2.heap.size, 0, none⟩) (by show w2.heap.size < w8.heap.size; omega)).trans v0_8
              have v1_9 : w9.cell? ⟨w2.heap.size, 1, none⟩ = some (.int .i64 e) := (b9.cell (p := ⟨w2.heap.size, 1, none⟩) (by show w2.heap.size < w8.heap.size; omega)).trans v1_8
              have zv_9 : w2.heap.size < w9.heap.size := Nat.lt_of_lt_of_le zv_8 b9.size
              clear hb b9 d8 k8 ba_8 zba_8 bd_8 zbd_8 bl_8 zbl_8 v0_8 v1_8 zv_8
              as_aux_lemma =>
                go_wp2_with (first | (refine wpList_load_wide 42 _ rfl (by rfl) _ _ rfl Lg _ Tryd.underlying42 rfl IL.out ?_ ?_; · (repeat (first | with_reducible exact bl_9 | refine World.rangeAt_alloc ?_ _))))
                refine (HA1.out _).mono ?_
                rintro e w10 ⟨rfl, hb⟩
                have b10 : Below w9.heap.size w9 w10 := bthen (by (repeat' (first | exact Below.refl _ _ | refine Below.setCell ?_ (by first | omega | (simp; done) | (simp; omega)) _ | refine Below.alloc ?_ (by first | omega | (simp; done) | (simp; omega)) _))) hb
                have d10 : Below w.heap.size w w10 := bthen d9 b10
                have k10 : w.heap.size ≤ w10.heap.size := d10.size
                have ba_10 : w10.rangeAt (w2.heap.size + 1) 0 (A).toList := range_below b10 (by omega) ba_9
                have zba_10 : w2.heap.size + 1 < w10.heap.size := Nat.lt_of_lt_of_le zba_9 b10.size
                have bd_10 : w10.rangeAt (w2.heap.size + 1 + 1) 0 (Bd).toList := range_below b10 (by omega) bd_9
                have zbd_10 : w2.heap.size + 1 + 1 < w10.heap.size := Nat.lt_of_lt_of_le zbd_9 b10.size
                have bl_10 : w10.rangeAt (w2.heap.size + 1 + 1 + 1) 0 (Lg).toList := range_below b10 (by omega) bl_9
                have zbl_10 : w2.heap.size + 1 + 1 + 1 < w10.heap.size := Nat.lt_of_lt_of_le zbl_9 b10.size
                have v0_10 : w10.cell? ⟨w2.heap.size, 0, none⟩ = some (.int .i64 s) := (b10.cell (p := ⟨w2.heap.size, 0, none⟩) (by show w2.heap.size < w9.heap.size; omega)).trans v0_9
                have v1_10 : w10.cell? ⟨w2.heap.size, 1, none⟩ = some (.int .i64 e) := (b10.cell (p := ⟨w2.heap.size, 1, none⟩) (by show w2.heap.size < w9.heap.size; omega)).trans v1_9
                have zv_10 : w2.heap.size < w10.heap.size := Nat.lt_of_lt_of_le zv_9 b10.size
                clear hb b10 d9 k9 ba_9 zba_9 bd_9 zbd_9 bl_9 zbl_9 v0_9 v1_9 zv_9
                as_aux_lemma =>
                  have wc : IntKind.u8.wrap (9 + cr) = 9 + cr := by simp [IntKind.wrap, IntKind.signed, IntKind.bits]; omega
                  go_wp2_with (first | (refine wpList_load_wide 42 _ rfl (by rfl) _ _ rfl A _ Tryd.underlying42 rfl IA.out ?_ ?_; · (repeat (first | with_reducible exact ba_10 | refine World.rangeAt_alloc ?_ _))))
                  refine (HO2.out _).mono ?_
                  rintro e w11 ⟨rfl, hb⟩
                  have b11 : Below w10.heap.size w10 w11 := bthen (by (repeat' (first | exact Below.refl _ _ | refine Below.setCell ?_ (by first | omega | (simp; done) | (simp; omega)) _ | refine Below.alloc ?_ (by first | omega | (simp; done) | (simp; omega)) _))) hb
                  have d11 : Below w.heap.size w w11 := bthen d10 b11
                  have k11 : w.heap.size ≤ w11.heap.size := d11.size
                  have ba_11 : w11.rangeAt (w2.heap.size + 1) 0 (A).toList := range_below b11 (by omega) ba_10
                  have zba_11 : w2.heap.size + 1 < w11.heap.size := Nat.lt_of_lt_of_le zba_10 b11.size
                  have bd_11 : w11.rangeAt (w2.heap.size + 1 + 1) 0 (Bd).toList := range_below b11 (by omega) bd_10
                  have zbd_11 : w2.heap.size + 1 + 1 < w11.heap.size := Nat.lt_of_lt_of_le zbd_10 b11.size
                  have bl_11 : w11.rangeAt (w2.heap.size + 1 + 1 + 1) 0 (Lg).toList := range_below b11 (by omega) bl_10
                  have zbl_11 : w2.heap.size + 1 + 1 + 1 < w11.heap.size := Nat.lt_of_lt_of_le zbl_10 b11.size
                  have v0_11 : w11.cell? ⟨w2.heap.size, 0, none⟩ = some (.int .i64 s) := (b11.cell (p := ⟨w2.heap.size, 0, none⟩) (by show w2.heap.size < w10.heap.size; omega)).trans v0_10
                  have v1_11 : w11.cell? ⟨w2.heap.size, 1, none⟩ = some (.int .i64 e) := (b11.cell (p := ⟨w2.heap.size, 1, none⟩) (by show w2.heap.size < w10.heap.size; omega)).trans v1_10
                  have zv_11 : w2.heap.size < w11.heap.size := Nat.lt_of_lt_of_le zv_10 b11.size
                  clear hb b11 d10 k10 ba_10 zba_10 bd_10 zbd_10 bl_10 zbl_10 v0_10 v1_10 zv_10
                  as_aux_lemma =>
                    go_wp2_with fail
                    refine (HD1.out _).mono ?_
                    rintro e w12 ⟨rfl, hb⟩
                    have b12 : Below w11.heap.size w11 w12 := bthen (by (repeat' (first | exact Below.refl _ _ | refine Below.setCell ?_ (by first | omega | (simp; done) | (simp; omega)) _ | refine Below.alloc ?_ (by first | omega | (simp; done) | (simp; omega)) _))) hb
                    have d12 : Below w.heap.size w w12 := bthen d11 b12
                    have k12 : w.heap.size ≤ w12.heap.size := d12.size
                    have ba_12 : w12.rangeAt (w2.heap.size + 1) 0 (A).toList := range_below b12 (by omega) ba_11
                    have zba_12 : w2.heap.size + 1 < w12.heap.size := Nat.lt_of_lt_of_le zba_11 b12.size
                    have bd_12 : w12.rangeAt (w2.heap.size + 1 + 1) 0 (Bd).toList := range_below b12 (by omega) bd_11
                    have zbd_12 : w2.heap.size + 1 + 1 < w12.heap.size := Nat.lt_of_lt_of_le zbd_11 b12.size
                    have bl_12 : w12.rangeAt (w2.heap.size + 1 + 1 + 1) 0 (Lg).toList := range_below b12 (by omega) bl_11
                    have zbl_12 : w2.heap.size + 1 + 1 + 1 < w12.heap.size := Nat.lt_of_lt_of_le zbl_11 b12.size
                    have v0_12 : w12.cell? ⟨w2.heap.size, 0, none⟩ = some (.int .i64 s) := (b12.cell (p := ⟨w2.heap.size, 0, none⟩) (by show w2.heap.size < w11.heap.size; omega)).trans v0_11
                    have v1_12 : w12.cell? ⟨w2.heap.size, 1, none⟩ = some (.int .i64 e) := (b12.cell (p := ⟨w2.heap.size, 1, none⟩) (by show w2.heap.size < w11.heap.size; omega)).trans v1_11
                    have zv_12 : w2.heap.size < w12.heap.size := Nat.lt_of_lt_of_le zv_11 b12.size
                    clear hb b12 d11 k11 ba_11 zba_11 bd_11 zbd_11 bl_11 zbl_11 v0_11 v1_11 zv_11
                    as_aux_lemma =>
                      go_wp2_with fail
                      refine (HD2.out _).mono ?_
                      rintro e w13 ⟨rfl, hb⟩
                      have b13 : Below w12.heap.size w12 w13 := bthen (by (repeat' (first | exact Below.refl _ _ | refine Below.setCell ?_ (by first | omega | (simp; done) | (simp; omega)) _ | refine Below.alloc ?_ (by first | omega | (simp; done) | (simp; omega)) _))) hb
                      have d13 : Below w.heap.size w w13 := bthen d12 b13
                      have k13 : w.heap.size ≤ w13.heap.size := d13.size
                      have ba_13 : w13.rangeAt (w2.heap.size + 1) 0 (A).toList := range_below b13 (by omega) ba_12
                      have zba_13 : w2.heap.size + 1 < w13.heap.size := Nat.lt_of_lt_of_le zba_12 b13.size
                      have bd_13 : w13.rangeAt (w2.heap.size + 1 + 1) 0 (Bd).toList := range_below b13 (by omega) bd_12
                      have zbd_13 : w2.heap.size + 1 + 1 < w13.heap.size := Nat.lt_of_lt_of_le zbd_12 b13.size
                      have bl_13 : w13.rangeAt (w2.heap.size + 1 + 1 + 1) 0 (Lg).toList := range_below b13 (by omega) bl_12
                      have zbl_13 : w2.heap.size + 1 + 1 + 1 < w13.heap.size := Nat.lt_of_lt_of_le zbl_12 b13.size
                      have v0_13 : w13.cell? ⟨w2.heap.size, 0, none⟩ = some (.int .i64 s) := (b13.cell (p := ⟨w2.heap.size, 0, none⟩) (by show w2.heap.size < w12.heap.size; omega)).trans v0_12
                      have v1_13 : w13.cell? ⟨w2.heap.size, 1, none⟩ = some (.int .i64 e) := (b13.cell (p := ⟨w2.heap.size, 1, none⟩) (by show w2.heap.size < w12.heap.size; omega)).trans v1_12
                      have zv_13 : w2.heap.size < w13.heap.size := Nat.lt_of_lt_of_le zv_12 b13.size
                      clear hb b13 d12 k12 ba_12 zba_12 bd_12 zbd_12 bl_12 zbl_12 v0_12 v1_12 zv_12
                      as_aux_lemma =>
                        go_wp2_with fail
                        refine (HD3.out _).mono ?_
                        rintro e w14 ⟨rfl, hb⟩
                        have b14 : Below w13.heap.size w13 w14 := bthen (by (repeat' (first | exact Below.refl _ _ | refine Below.setCell ?_ (by first | omega | (simp; done) | (simp; omega)) _ | refine Below.alloc ?_ (by first | omega | (simp; done) | (simp; omega)) _))) hb
                        have d14 : Below w.heap.size w w14 := bthen d13 b14
                        have k14 : w.heap.size ≤ w14.heap.size := d14.size
                        have ba_14 : w14.rangeAt (w2.heap.size + 1) 0 (A).toList := range_below b14 (by omega) ba_13
                        have zba_14 : w2.heap.size + 1 < w14.heap.size := Nat.lt_of_lt_of_le zba_13 b14.size
                        have bd_14 : w14.rangeAt (w2.heap.size + 1 + 1) 0 (Bd).toList := range_below b14 (by omega) bd_13
                        have zbd_14 : w2.heap.size + 1 + 1 < w14.heap.size := Nat.lt_of_lt_of_le zbd_13 b14.size
                        have bl_14 : w14.rangeAt (w2.heap.size + 1 + 1 + 1) 0 (Lg).toList := range_below b14 (by omega) bl_13
                        have zbl_14 : w2.heap.size + 1 + 1 + 1 < w14.heap.size := Nat.lt_of_lt_of_le zbl_13 b14.size
                        have v0_14 : w14.cell? ⟨w2.heap.size, 0, none⟩ = some (.int .i64 s) := (b14.cell (p := ⟨w2.heap.size, 0, none⟩) (by show w2.heap.size < w13.heap.size; omega)).trans v0_13
                        have v1_14 : w14.cell? ⟨w2.heap.size, 1, none⟩ = some (.int .i64 e) := (b14.cell (p := ⟨w2.heap.size, 1, none⟩) (by show w2.heap.size < w13.heap.size; omega)).trans v1_13
                        have zv_14 : w2.heap.size < w14.heap.size := Nat.lt_of_lt_of_le zv_13 b14.size
                        clear hb b14 d13 k13 ba_13 zba_13 bd_13 zbd_13 bl_13 zbl_13 v0_13 v1_13 zv_13
                        as_aux_lemma =>
                          go_wp2_with fail
                          refine (HM1.out _).mono ?_
                          rintro e w15 ⟨rfl, hb⟩
                          have b15 : Below w14.heap.size w14 w15 := bthen (by (repeat' (first | exact Below.refl _ _ | refine Below.setCell ?_ (by first | omega | (simp; done) | (simp; omega)) _ | refine Below.alloc ?_ (by first | omega | (simp; done) | (simp; omega)) _))) hb
                          have d15 : Below w.heap.size w w15 := bthen d14 b15
                          have k15 : w.heap.size ≤ w15.heap.size := d15.size
                          have ba_15 : w15.rangeAt (w2.heap.size + 1) 0 (A).toList := range_below b15 (by omega) ba_14
                          have zba_15 : w2.heap.size + 1 < w15.heap.size := Nat.lt_of_lt_of_le zba_14 b15.size
                          have bd_15 : w15.rangeAt (w2.heap.size + 1 + 1) 0 (Bd).toList := range_below b15 (by omega) bd_14
                          have zbd_15 : w2.heap.size + 1 + 1 < w15.heap.size := Nat.lt_of_lt_of_le zbd_14 b15.size
                          have bl_15 : w15.rangeAt (w2.heap.size + 1 + 1 + 1) 0 (Lg).toList := range_below b15 (by omega) bl_14
                          have zbl_15 : w2.heap.size + 1 + 1 + 1 < w15.heap.size := Nat.lt_of_lt_of_le zbl_14 b15.size
                          have v0_15 : w15.cell? ⟨w2.heap.size, 0, none⟩ = some (.int .i64 s) := (b15.cell (p := ⟨w2.heap.size, 0, none⟩) (by show w2.heap.size < w14.heap.size; omega)).trans v0_14
                          have v1_15 : w15.cell? ⟨w2.heap.size, 1, none⟩ = some (.int .i64 e) := (b15.cell (p := ⟨w2.heap.size, 1, none⟩) (by show w2.heap.size < w14.heap.size; omega)).trans v1_14
                          have zv_15 : w2.heap.size < w15.heap.size := Nat.lt_of_lt_of_le zv_14 b15.size
                          clear hb b15 d14 k14 ba_14 zba_14 bd_14 zbd_14 bl_14 zbl_14 v0_14 v1_14 zv_14
                          as_aux_lemma =>
                            go_wp2_with fail
                            refine (HM2.out _).mono ?_
                            rintro e w16 ⟨rfl, hb⟩
                            have b16 : Below w15.heap.size w15 w16 := bthen (by (repeat' (first | exact Below.refl _ _ | refine Below.setCell ?_ (by first | omega | (simp; done) | (simp; omega)) _ | refine Below.alloc ?_ (by first | omega | (simp; done) | (simp; omega)) _))) hb
                            have d16 : Below w.heap.size w w16 := bthen d15 b16
                            have k16 : w.heap.size ≤ w16.heap.size := d16.size
                            have ba_16 : w16.rangeAt (w2.heap.size + 1) 0 (A).toList := range_below b16 (by omega) ba_15
                            have zba_16 : w2.heap.size + 1 < w16.heap.size := Nat.lt_of_lt_of_le zba_15 b16.size
                            have bd_16 : w16.rangeAt (w2.heap.size + 1 + 1) 0 (Bd).toList := range_below b16 (by omega) bd_15
                            have zbd_16 : w2.heap.size + 1 + 1 < w16.heap.size := Nat.lt_of_lt_of_le zbd_15 b16.size
                            have bl_16 : w16.rangeAt (w2.heap.size + 1 + 1 + 1) 0 (Lg).toList := range_below b16 (by omega) bl_15
                            have zbl_16 : w2.heap.size + 1 + 1 + 1 < w16.heap.size := Nat.lt_of_lt_of_le zbl_15 b16.size
                            have v0_16 : w16.cell? ⟨w2.heap.size, 0, none⟩ = some (.int .i64 s) := (b16.cell (p := ⟨w2.heap.size, 0, none⟩) (by show w2.heap.size < w15.heap.size; omega)).trans v0_15
                            have v1_16 : w16.cell? ⟨w2.heap.size, 1, none⟩ = some (.int .i64 e) := (b16.cell (p := ⟨w2.heap.size, 1, none⟩) (by show w2.heap.size < w15.heap.size; omega)).trans v1_15
                            have zv_16 : w2.heap.size < w16.heap.size := Nat.lt_of_lt_of_le zv_15 b16.size
                            clear hb b16 d15 k15 ba_15 zba_15 bd_15 zbd_15 bl_15 zbl_15 v0_15 v1_15 zv_15
                            obtain ⟨E14, hE⟩ : ∃ E : Array Value, Hid (E.toList = List.replicate 14 (.int .i64 2)) := ⟨(List.replicate 14 (.int .i64 2)).toArray, (show _ = _ from rfl)⟩
                            go_simp
                            (iterate 64 (first | go_values | go_skip | go_guarded | go_step | go_upon | go_back))
                            refine wpList_buildFew rfl 50 31 14 _ rfl E14 _ hE.out w16.heap.size (by simp) _ rfl _ Tryd.underlying50 info31 (by decide) (by simp) (by decide) ?_ (fun v hv => by simp at hv; subst hv; rfl) ?_
                            · rw [Array.toList_map]
                              rfl
                            (repeat (first | go_values | go_skip | go_guarded | go_step | go_upon | go_back))
                            have RE : (w16.alloc (.cells E14 31)).rangeAt w16.heap.size 0 (List.replicate 14 (.int .i64 2)) := hE.out ▸ range_new' _ _ _ _ rfl
                            have dE : Below w.heap.size w (w16.alloc (.cells E14 31)) := d16.alloc k16 _
                            have zE : w16.heap.size < (w16.alloc (.cells E14 31)).heap.size := by simp
                            have kE : w.heap.size ≤ (w16.alloc (.cells E14 31)).heap.size := dE.size
                            have bE : Below w16.heap.size w16 (w16.alloc (.cells E14 31)) := (Below.refl _ _).alloc (Nat.le_refl _) _
                            have ba_e := range_below bE (by omega) ba_16
                            have zba_e : w2.heap.size + 1 < (w16.alloc (.cells E14 31)).heap.size := Nat.lt_of_lt_of_le zba_16 bE.size
                            have bd_e := range_below bE (by omega) bd_16
                            have zbd_e : w2.heap.size + 1 + 1 < (w16.alloc (.cells E14 31)).heap.size := Nat.lt_of_lt_of_le zbd_16 bE.size
                            have bl_e := range_below bE (by omega) bl_16
                            have zbl_e : w2.heap.size + 1 + 1 + 1 < (w16.alloc (.cells E14 31)).heap.size := Nat.lt_of_lt_of_le zbl_16 bE.size
                            have v0_e := kc bE v0_16
                            have v1_e := kc bE v1_16
                            have zv_e : w2.heap.size < (w16.alloc (.cells E14 31)).heap.size := Nat.lt_of_lt_of_le zv_16 bE.size
                            generalize w16.alloc (.cells E14 31) = V at *
                            generalize hBE : w16.heap.size = BE at *
                            clear bE ba_16 zba_16 bd_16 zbd_16 bl_16 zbl_16 v0_16 v1_16 zv_16 d16 k16 hBE
                            go_loopw [192] (fun i wr => ∃ j : Nat, j ≤ 14 ∧ i = .int .i64 j ∧ Below V.heap.size V wr) (fun i _ => 14 - (intOf i).toNat)
                            case atStart => exact ⟨0, by omega, rfl, Below.refl _ _⟩
                            case round =>
                              obtain ⟨j, hj, rfl, hb⟩ := hrel
                              by_cases hjl : j < 14
                              · have c0 : wr.cell? ⟨BE, j, none⟩ = some (.int .i64 2) := kc hb (by have := RE j (.int .i64 2) (by rw [List.getElem?_replicate, if_pos hjl]); simpa using this)
                                have hjd : decide ((j : Int) < 14) = true := by simp; omega
                                clear RE
                                go_wp2_with fail
                                go_roundw
                                case rel => exact ⟨j + 1, by omega, by go_num, hb⟩
                                case measure => simp [intOf]; omega
                              · obtain rfl : j = 14 := by omega
                                clear RE hj
                                have d3 : Below w.heap.size w wr := bthen dE hb
                                have ba_3 := range_below hb zba_e ba_e
                                have zba_3 := Nat.lt_of_lt_of_le zba_e hb.size
                                have bd_3 := range_below hb zbd_e bd_e
                                have zbd_3 := Nat.lt_of_lt_of_le zbd_e hb.size
                                have bl_3 := range_below hb zbl_e bl_e
                                have zbl_3 := Nat.lt_of_lt_of_le zbl_e hb.size
                                have v0_3 := kc hb v0_e
                                have v1_3 := kc hb v1_e
                                have zv_3 := Nat.lt_of_lt_of_le zv_e hb.size
                                have k3 := d3.size
                                clear hb ba_e zba_e bd_e zbd_e bl_e zbl_e v0_e v1_e zv_e dE kE zE
                                go_wp2_with (first | (refine wpList_load_wide 42 _ rfl (by rfl) _ _ rfl Bd _ Tryd.underlying42 rfl IB.out ?_ ?_; · (repeat (first | with_reducible exact bd_3 | refine World.rangeAt_alloc ?_ _))))
                                refine (HR1.out _).mono ?_
                                rintro e w4 ⟨rfl, hb⟩
                                have b4 : Below wr.heap.size wr w4 := bthen (by (repeat' (first | exact Below.refl _ _ | refine Below.setCell ?_ (by first | omega | (simp; done) | (simp; omega)) _ | refine Below.alloc ?_ (by first | omega | (simp; done) | (simp; omega)) _))) hb
                                have d4 : Below w.heap.size w w4 := bthen d3 b4
                                have k4 : w.heap.size ≤ w4.heap.size := d4.size
                                have ba_4 : w4.rangeAt (w2.heap.size + 1) 0 (A).toList := range_below b4 (by omega) ba_3
                                have zba_4 : w2.heap.size + 1 < w4.heap.size := Nat.lt_of_lt_of_le zba_3 b4.size
                                have bd_4 : w4.rangeAt (w2.heap.size + 1 + 1) 0 (Bd).toList := range_below b4 (by omega) bd_3
                                have zbd_4 : w2.heap.size + 1 + 1 < w4.heap.size := Nat.lt_of_lt_of_le zbd_3 b4.size
                                have bl_4 : w4.rangeAt (w2.heap.size + 1 + 1 + 1) 0 (Lg).toList := range_below b4 (by omega) bl_3
                                have zbl_4 : w2.heap.size + 1 + 1 + 1 < w4.heap.size := Nat.lt_of_lt_of_le zbl_3 b4.size
                                have v0_4 : w4.cell? ⟨w2.heap.size, 0, none⟩ = some (.int .i64 s) := (b4.cell (p := ⟨w2.heap.size, 0, none⟩) (by show w2.heap.size < wr.heap.size; omega)).trans v0_3
                                have v1_4 : w4.cell? ⟨w2.heap.size, 1, none⟩ = some (.int .i64 e) := (b4.cell (p := ⟨w2.heap.size, 1, none⟩) (by show w2.heap.size < wr.heap.size; omega)).trans v1_3
                                have zv_4 : w2.heap.size < w4.heap.size := Nat.lt_of_lt_of_le zv_3 b4.size
                                clear hb b4 d3 k3 ba_3 zba_3 bd_3 zbd_3 bl_3 zbl_3 v0_3 v1_3 zv_3
                                as_aux_lemma =>
                                  go_wp2_with (first | (refine wpList_load_wide 42 _ rfl (by rfl) _ _ rfl Lg _ Tryd.underlying42 rfl IL.out ?_ ?_; · (repeat (first | with_reducible exact bl_4 | refine World.rangeAt_alloc ?_ _))))
                                  refine (HR2.out _).mono ?_
                                  rintro e w5 ⟨rfl, hb⟩
                                  have b5 : Below w4.heap.size w4 w5 := bthen (by (repeat' (first | exact Below.refl _ _ | refine Below.setCell ?_ (by first | omega | (simp; done) | (simp; omega)) _ | refine Below.alloc ?_ (by first | omega | (simp; done) | (simp; omega)) _))) hb
                                  have d5 : Below w.heap.size w w5 := bthen d4 b5
                                  have k5 : w.heap.size ≤ w5.heap.size := d5.size
                                  have ba_5 : w5.rangeAt (w2.heap.size + 1) 0 (A).toList := range_below b5 (by omega) ba_4
                                  have zba_5 : w2.heap.size + 1 < w5.heap.size := Nat.lt_of_lt_of_le zba_4 b5.size
                                  have bd_5 : w5.rangeAt (w2.heap.size + 1 + 1) 0 (Bd).toList := range_below b5 (by omega) bd_4
                                  have zbd_5 : w2.heap.size + 1 + 1 < w5.heap.size := Nat.lt_of_lt_of_le zbd_4 b5.size
                                  have bl_5 : w5.rangeAt (w2.heap.size + 1 + 1 + 1) 0 (Lg).toList := range_below b5 (by omega) bl_4
                                  have zbl_5 : w2.heap.size + 1 + 1 + 1 < w5.heap.size := Nat.lt_of_lt_of_le zbl_4 b5.size
                                  have v0_5 : w5.cell? ⟨w2.heap.size, 0, none⟩ = some (.int .i64 s) := (b5.cell (p := ⟨w2.heap.size, 0, none⟩) (by show w2.heap.size < w4.heap.size; omega)).trans v0_4
                                  have v1_5 : w5.cell? ⟨w2.heap.size, 1, none⟩ = some (.int .i64 e) := (b5.cell (p := ⟨w2.heap.size, 1, none⟩) (by show w2.heap.size < w4.heap.size; omega)).trans v1_4
                                  have zv_5 : w2.heap.size < w5.heap.size := Nat.lt_of_lt_of_le zv_4 b5.size
                                  clear hb b5 d4 k4 ba_4 zba_4 bd_4 zbd_4 bl_4 zbl_4 v0_4 v1_4 zv_4
                                  as_aux_lemma =>
                                    go_wp2_with (first | (refine wpList_load_wide 42 _ rfl (by rfl) _ _ rfl A _ Tryd.underlying42 rfl IA.out ?_ ?_; · (repeat (first | with_reducible exact ba_5 | refine World.rangeAt_alloc ?_ _))))
                                    refine (HR3.out _).mono ?_
                                    rintro e w6 ⟨rfl, hb⟩
                                    have b6 : Below w5.heap.size w5 w6 := bthen (by (repeat' (first | exact Below.refl _ _ | refine Below.setCell ?_ (by first | omega | (simp; done) | (simp; omega)) _ | refine Below.alloc ?_ (by first | omega | (simp; done) | (simp; omega)) _))) hb
                                    have d6 : Below w.heap.size w w6 := bthen d5 b6
                                    have k6 : w.heap.size ≤ w6.heap.size := d6.size
                                    have ba_6 : w6.rangeAt (w2.heap.size + 1) 0 (A).toList := range_below b6 (by omega) ba_5
                                    have zba_6 : w2.heap.size + 1 < w6.heap.size := Nat.lt_of_lt_of_le zba_5 b6.size
                                    have bd_6 : w6.rangeAt (w2.heap.size + 1 + 1) 0 (Bd).toList := range_below b6 (by omega) bd_5
                                    have zbd_6 : w2.heap.size + 1 + 1 < w6.heap.size := Nat.lt_of_lt_of_le zbd_5 b6.size
                                    have bl_6 : w6.rangeAt (w2.heap.size + 1 + 1 + 1) 0 (Lg).toList := range_below b6 (by omega) bl_5
                                    have zbl_6 : w2.heap.size + 1 + 1 + 1 < w6.heap.size := Nat.lt_of_lt_of_le zbl_5 b6.size
                                    have v0_6 : w6.cell? ⟨w2.heap.size, 0, none⟩ = some (.int .i64 s) := (b6.cell (p := ⟨w2.heap.size, 0, none⟩) (by show w2.heap.size < w5.heap.size; omega)).trans v0_5
                                    have v1_6 : w6.cell? ⟨w2.heap.size, 1, none⟩ = some (.int .i64 e) := (b6.cell (p := ⟨w2.heap.size, 1, none⟩) (by show w2.heap.size < w5.heap.size; omega)).trans v1_5
                                    have zv_6 : w2.heap.size < w6.heap.size := Nat.lt_of_lt_of_le zv_5 b6.size
                                    clear hb b6 d5 k5 ba_5 zba_5 bd_5 zbd_5 bl_5 zbl_5 v0_5 v1_5 zv_5
                                    as_aux_lemma =>
                                      go_wp2_with fail
                                      refine (HQ1.out _).mono ?_
                                      rintro e w7 ⟨rfl, hb⟩
                                      have b7 : Below w6.heap.size w6 w7 := bthen (by (repeat' (first | exact Below.refl _ _ | refine Below.setCell ?_ (by first | omega | (simp; done) | (simp; omega)) _ | refine Below.alloc ?_ (by first | omega | (simp; done) | (simp; omega)) _))) hb
                                      have d7 : Below w.heap.size w w7 := bthen d6 b7
                                      have k7 : w.heap.size ≤ w7.heap.size := d7.size
                                      have ba_7 : w7.rangeAt (w2.heap.size + 1) 0 (A).toList := range_below b7 (by omega) ba_6
                                      have zba_7 : w2.heap.size + 1 < w7.heap.size := Nat.lt_of_lt_of_le zba_6 b7.size
                                      have bd_7 : w7.rangeAt (w2.heap.size + 1 + 1) 0 (Bd).toList := range_below b7 (by omega) bd_6
                                      have zbd_7 : w2.heap.size + 1 + 1 < w7.heap.size := Nat.lt_of_lt_of_le zbd_6 b7.size
                                      have bl_7 : w7.rangeAt (w2.heap.size + 1 + 1 + 1) 0 (Lg).toList := range_below b7 (by omega) bl_6
                                      have zbl_7 : w2.heap.size + 1 + 1 + 1 < w7.heap.size := Nat.lt_of_lt_of_le zbl_6 b7.size
                                      have v0_7 : w7.cell? ⟨w2.heap.size, 0, none⟩ = some (.int .i64 s) := (b7.cell (p := ⟨w2.heap.size, 0, none⟩) (by show w2.heap.size < w6.heap.size; omega)).trans v0_6
                                      have v1_7 : w7.cell? ⟨w2.heap.size, 1, none⟩ = some (.int .i64 e) := (b7.cell (p := ⟨w2.heap.size, 1, none⟩) (by show w2.heap.size < w6.heap.size; omega)).trans v1_6
                                      have zv_7 : w2.heap.size < w7.heap.size := Nat.lt_of_lt_of_le zv_6 b7.size
                                      clear hb b7 d6 k6 ba_6 zba_6 bd_6 zbd_6 bl_6 zbl_6 v0_6 v1_6 zv_6
                                      as_aux_lemma =>
                                        go_wp2_with fail
                                        refine (HQ2.out _).mono ?_
                                        rintro e w8 ⟨rfl, hb⟩
                                        have b8 : Below w7.heap.size w7 w8 := bthen (by (repeat' (first | exact Below.refl _ _ | refine Below.setCell ?_ (by first | omega | (simp; done) | (simp; omega)) _ | refine Below.alloc ?_ (by first | omega | (simp; done) | (simp; omega)) _))) hb
                                        have d8 : Below w.heap.size w w8 := bthen d7 b8
                                        have k8 : w.heap.size ≤ w8.heap.size := d8.size
                                        have ba_8 : w8.rangeAt (w2.heap.size + 1) 0 (A).toList := range_below b8 (by omega) ba_7
                                        have zba_8 : w2.heap.size + 1 < w8.heap.size := Nat.lt_of_lt_of_le zba_7 b8.size
                                        have bd_8 : w8.rangeAt (w2.heap.size + 1 + 1) 0 (Bd).toList := range_below b8 (by omega) bd_7
                                        have zbd_8 : w2.heap.size + 1 + 1 < w8.heap.size := Nat.lt_of_lt_of_le zbd_7 b8.size
                                        have bl_8 : w8.rangeAt (w2.heap.size + 1 + 1 + 1) 0 (Lg).toList := range_below b8 (by omega) bl_7
                                        have zbl_8 : w2.heap.size + 1 + 1 + 1 < w8.heap.size := Nat.lt_of_lt_of_le zbl_7 b8.size
                                        have v0_8 : w8.cell? ⟨w2.heap.size, 0, none⟩ = some (.int .i64 s) := (b8.cell (p := ⟨w2.heap.size, 0, none⟩) (by show w2.heap.size < w7.heap.size; omega)).trans v0_7
                                        have v1_8 : w8.cell? ⟨w2.heap.size, 1, none⟩ = some (.int .i64 e) := (b8.cell (p := ⟨w2.heap.size, 1, none⟩) (by show w2.heap.size < w7.heap.size; omega)).trans v1_7
                                        have zv_8 : w2.heap.size < w8.heap.size := Nat.lt_of_lt_of_le zv_7 b8.size
                                        clear hb b8 d7 k7 ba_7 zba_7 bd_7 zbd_7 bl_7 zbl_7 v0_7 v1_7 zv_7
                                        as_aux_lemma =>
                                          go_wp2_with fail
                                          go_ret
                                          exact ⟨rfl, d8⟩

abbrev nine (b : Nat → Int) : Array Value := #[.int .i64 (b 0), .int .i64 (b 1), .int .i64 (b 2), .int .i64 (b 3), .int .i64 (b 4), .int .i64 (b 5), .int .i64 (b 6), .int .i64 (b 7), .int .i64 (b 8)]
theorem nine_set (t m : Int) (i : Nat) (hi : i < 9) : ([.int .i64 1, .int .i64 1, .int .i64 1, .int .i64 1, .int .i64 1, .int .i64 1, .int .i64 1, .int .i64 1, .int .i64 t].set i (.int .i64 m)).toArray = nine (fun k => if k = i then m else if k = 8 then t else 1) := by
  rcases nine_cases hi with rfl | rfl | rfl | rfl | rfl | rfl | rfl | rfl | rfl <;> rfl
theorem sclE_bad {t s e l : Int} (w : World) (h : (tmd t && lvs s e l) = false) :
    Calls Tryd.prog 17 #[.int .i64 t, .agg #[.int .i64 s, .int .i64 e], .int .i64 l] w fun r w' => r = .returned (.tuple #[.int .i64 0, .int .i64 2]) ∧ Below w.heap.size w w' := by
  have := Scaled_any t s e l w
  have k : sclE t s e l = (0, 2) := by rw [sclE, h]; rfl
  rw [k] at this
  exact this
theorem dln_bad {now t : Int} (w : World) (h : (decide (0 ≤ now) && decide (now ≤ 1099511627776) && tmd t) = false) :
    Calls Tryd.prog 26 #[.int .i64 now, .int .i64 t] w fun r w' => r = .returned (.tuple #[.int .i64 0, .int .i64 2]) ∧ Below w.heap.size w w' := by
  have := deadline_any now t w
  have k : dln now t = (0, 2) := by rw [dln, h]; rfl
  rw [k] at this
  exact this.mono fun _ _ ⟨h1, h2⟩ => ⟨h1, h2 ▸ Below.refl _ _⟩
theorem of_bad (b : Nat → Int) (c s e l : Int) (w : World) (hc0 : 0 ≤ c) (h : (rgt b && decide (c < 9) && lvs s e l) = false) :
    Calls Tryd.prog 25 #[.agg (nine b), .int .u8 c, .agg #[.int .i64 s, .int .i64 e], .int .i64 l] w fun r w' => r = .returned (.tuple #[.int .i64 0, .int .i64 2]) ∧ Below w.heap.size w w' := by
  have := of_any b c s e l w hc0
  have k : ofE b c s e l = (0, 2) := by rw [ofE, h]; rfl
  rw [k] at this
  exact this
theorem right_is (b : Nat → Int) (r : Bool) (h : rgt b = r) (w : World) : Calls Tryd.prog 24 #[.agg (nine b)] w fun e w' => e = .returned (.bool r) ∧ Below w.heap.size w w' := by
  subst h
  exact (right_any b w).mono fun _ _ ⟨h1, h2⟩ => ⟨h1, h2 ▸ (Below.refl _ _).alloc (Nat.le_refl _) _⟩
theorem rsc_is (a b : Int) (r : Bool) (h : rsc a b = r) (w : World) : Calls Tryd.prog 27 #[.agg #[.int .i64 a, .int .i64 b]] w fun e w' => e = .returned (.bool r) ∧ Below w.heap.size w w' := by
  subst h
  exact rightScale_any a b w

set_option maxHeartbeats 1000000 in
theorem timeoutWrong_walk (x : Nb) (n : Int) (c : Int) (w : World) (hT : Tab w) (hx : B64 x.1 ∧ B64 x.2.1 ∧ B64 x.2.2) (hn : B64 n) (hc : 0 ≤ c ∧ c ≤ 255) :
    Calls Tryd.prog 11 #[.agg #[.int .i64 x.1, .int .i64 x.2.1, .int .i64 x.2.2], .int .i64 n, .int .u8 c] w fun e w' => e = .returned (.bool true) ∧ Below w.heap.size w w' := by
  obtain ⟨t, s, e, ⟨h1, h2, h3, h4, h5, h6⟩, HM⟩ := made_any' x w hx
  obtain ⟨m0, q0, g0⟩ : ∃ m, (if 0 < n then 0 else n) = m ∧ m ≤ 0 := ⟨_, rfl, by split <;> omega⟩
  obtain ⟨mT, qT, gT⟩ : ∃ m, (if n < 16777216 then 16777216 else n) = m ∧ 16777216 ≤ m := ⟨_, rfl, by split <;> omega⟩
  obtain ⟨mN, qN, gN⟩ : ∃ m, (if -1 < n then -1 else n) = m ∧ m ≤ -1 := ⟨_, rfl, by split <;> omega⟩
  obtain ⟨mE, qE, gE⟩ : ∃ m, (if n < e then e else n) = m ∧ e ≤ m := ⟨_, rfl, by split <;> omega⟩
  obtain ⟨mD, qD, gD⟩ : ∃ m, (if n < 1099511627777 then 1099511627777 else n) = m ∧ 1099511627777 ≤ m := ⟨_, rfl, by split <;> omega⟩
  obtain ⟨mQ, qQ, gQ⟩ : ∃ m, (if n < t + 1 then t + 1 else n) = m ∧ t + 1 ≤ m := ⟨_, rfl, by split <;> omega⟩
  obtain ⟨mS, qS, gS⟩ : ∃ m, (if n < 1048577 then 1048577 else n) = m ∧ 1048577 ≤ m := ⟨_, rfl, by split <;> omega⟩
  obtain ⟨i, hci⟩ : ∃ i : Nat, c % 9 = i := ⟨(c % 9).toNat, by omega⟩
  have hi : i < 9 := by omega
  have T0 : tmd m0 = false := by simp [tmd]; omega
  have TT : tmd mT = false := by simp [tmd]; omega
  have Rt : rgt (fun k => if k = 8 then t else 1) = true := rgt_mk fun k _ => by
    by_cases hk : k = 8
    · simp [hk, tmd, h1, h2]
    · simp [hk, tmd]
  have RB : rgt (fun k => if k = i then m0 else if k = 8 then t else 1) = false := rgt_false i hi (by simp [T0])
  have RL : rgt (fun k => if k = i then mT else if k = 8 then t else 1) = false := rgt_false i hi (by simp [TT])
  have hA : #[.int .i64 1, .int .i64 1, .int .i64 1, .int .i64 1, .int .i64 1, .int .i64 1, .int .i64 1, .int .i64 1, .int .i64 t] = nine (fun k => if k = 8 then t else 1) := rfl
  have hB := nine_set t m0 i hi
  have hL := nine_set t mT i hi
  have KR1 := fun W => right_is _ _ RB W
  have KR2 := fun W => right_is _ _ RL W
  have KR3 := fun W => right_is _ _ Rt W
  have KO1 := fun W => of_bad (fun k => if k = i then m0 else if k = 8 then t else 1) i s e 0 W (by omega) (by rw [RB]; rfl)
  have KO2 := fun W => of_bad (fun k => if k = 8 then t else 1) (9 + c % 247) s e 0 W (by omega) (by simp; omega)
  have KA := fun W => all_no (fun k => if k = i then mT else if k = 8 then t else 1) s e 0 W (by rw [RL]; rfl)
  have zB : (nine (fun k => if k = i then m0 else if k = 8 then t else 1)).size = 9 := rfl
  have zL : (nine (fun k => if k = i then mT else if k = 8 then t else 1)).size = 9 := rfl
  change ∀ W, Calls Tryd.prog 23 #[.agg (nine (fun k => if k = i then mT else if k = 8 then t else 1)), _, _] W _ at KA
  generalize nine (fun k => if k = 8 then t else 1) = A at *
  generalize nine (fun k => if k = i then m0 else if k = 8 then t else 1) = Bd at *
  generalize nine (fun k => if k = i then mT else if k = 8 then t else 1) = Lg at *
  have KS1 := fun W => sclE_bad (t := m0) (s := s) (e := e) (l := 0) W (by rw [T0]; rfl)
  have KS2 := fun W => sclE_bad (t := mT) (s := s) (e := e) (l := 0) W (by rw [TT]; rfl)
  have KS3 := fun W => sclE_bad (t := t) (s := s) (e := e) (l := mN) W (by simp [lvs]; omega)
  have KS4 := fun W => sclE_bad (t := t) (s := s) (e := e) (l := mE) W (by simp [lvs]; omega)
  have KS5 := fun W => sclE_bad (t := t) (s := e) (e := e) (l := 0) W (by simp [lvs, rsc])
  have KS6 := fun W => sclE_bad (t := t) (s := mN) (e := e) (l := 0) W (by simp [lvs, rsc]; omega)
  have KD1 := fun W => dln_bad (now := mN) (t := t) W (by simp; omega)
  have KD2 := fun W => dln_bad (now := mD) (t := t) W (by simp; omega)
  have KD3 := fun W => dln_bad (now := 0) (t := m0) W (by rw [T0]; simp)
  have KM1 := fun W => most_no t s e mQ W (by simp [mok]; omega)
  have KM2 := fun W => most_no t s e m0 W (by simp [mok]; omega)
  have KQ1 := fun W => rsc_is s e true (by simp [rsc]; omega) W
  have KQ2 := fun W => rsc_is 0 mS false (by simp [rsc]; omega) W
  clear RB RL Rt
  exact wrong_core x.1 x.2.1 x.2.2 n c t s e m0 mT mN mE mD mQ mS (c % 247) i A Bd Lg (fun _ => 0) w hT hn hc ⟨h1, h2⟩ ⟨h3, h4, h5, h6⟩ hA hi hci rfl (by omega) (by omega) hB hL zB zL q0 qT qN qE qD qQ qS HM.out
    KS1 KS2 KS3 KS4 KS5 KS6 KO1 KA KO2 KD1 KD2 KD3 KM1 KM2 KR1 KR2 KR3 KQ1 KQ2

end Go.Proofs.YtkcgijkccpiljaaDoor
