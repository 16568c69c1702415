/-
  The walk of StreamWrong: flows that are not right, directions that there are not, and packets of other kinds are rejected.
-/
import Derived.Test.YtjmcpgagbjmfgaaDoorSeen
import Derived.Test.YtjmcpgagbjmfgaaDoorTells
namespace Go.Proofs.YtjmcpgagbjmfgaaDoor
open Go.RowKit
set_option linter.unusedVariables false
set_option linter.unusedSimpArgs false

theorem open_wide (d : Int) (F : List Value) (W : World) (b : Nat) (h : W.rangeAt b 0 (.int .u8 d :: F)) : W.cell? ⟨b, 0, none⟩ = some (.int .u8 d) ∧ W.rangeAt b 1 F :=
  ⟨h 0 _ rfl, fun j v hv => by have := h (j + 1) v (by simpa using hv); rwa [show 0 + (j + 1) = 1 + j by omega] at this⟩
theorem there_sub {W : World} {b n : Nat} (h : W.there b 0 (n + 1)) : W.there b 1 n := fun j hj => by
  have := h (j + 1) (by omega)
  rwa [show 0 + (j + 1) = 1 + j by omega] at this
theorem set3 {W : World} {P B : Nat} (hne : P ≠ B) {a b c : Value} (h0 : W.cell? ⟨P, 0, none⟩ = some a) (h1 : W.cell? ⟨P, 1, none⟩ = some b) (h2 : W.cell? ⟨P, 2, none⟩ = some c) (x y z : Value) :
    (((W.setCell ⟨P, 0, none⟩ x).setCell ⟨P, 1, none⟩ y).setCell ⟨P, 2, none⟩ z).cell? ⟨P, 0, none⟩ = some x ∧ (((W.setCell ⟨P, 0, none⟩ x).setCell ⟨P, 1, none⟩ y).setCell ⟨P, 2, none⟩ z).cell? ⟨P, 1, none⟩ = some y ∧ (((W.setCell ⟨P, 0, none⟩ x).setCell ⟨P, 1, none⟩ y).setCell ⟨P, 2, none⟩ z).cell? ⟨P, 2, none⟩ = some z := by
  simp [go_sem, h0, h1, h2]
theorem there_set3 {W : World} {P b o n : Nat} {x y z : Value} (h : W.there b o n) : (((W.setCell ⟨P, 0, none⟩ x).setCell ⟨P, 1, none⟩ y).setCell ⟨P, 2, none⟩ z).there b o n :=
  World.there_setCells (World.there_setCells (World.there_setCells h P 0 [x]) P 1 [y]) P 2 [z]
theorem there_below {w w' : World} {b o n : Nat} (hb : Below w.heap.size w w') (hlt : b < w.heap.size) (h : w.there b o n) : w'.there b o n := fun j hj => by
  rw [hb.cell (p := ⟨b, o + j, none⟩) hlt, hb.frozen (p := ⟨b, o + j, none⟩) hlt]
  exact h j hj

/-- Flows that are not right. -/
def badL (x1 x2 m3 m4 b m1 : Int) : List (Int × Int × Int) := [(0, 0, 0), (x1, m3, x2), (x1, 0, x2), (m4, 1, x2), (b, 1, 0), (2, 2, m1), (3, 1, 14)]
theorem bad_lies (w : World) (P : Nat) (W : World) (hP : w.heap.size = P) (x1 x2 m3 m4 b m1 : Int)
    (hW : w.alloc (.cells #[.int .u8 0, .int .u8 0, .int .u8 0, .int .u8 x1, .int .u8 m3, .int .u8 x2, .int .u8 x1, .int .u8 0, .int .u8 x2, .int .u8 m4, .int .u8 1, .int .u8 x2, .int .u8 b, .int .u8 1, .int .u8 0, .int .u8 2, .int .u8 2, .int .u8 m1, .int .u8 3, .int .u8 1, .int .u8 14] 23) = W) :
    ∀ i, i < 7 → W.cell? ⟨P, i * 3, none⟩ = some (.int .u8 ((badL x1 x2 m3 m4 b m1).getD i (0, 0, 0)).1) ∧ W.cell? ⟨P, i * 3 + 1, none⟩ = some (.int .u8 ((badL x1 x2 m3 m4 b m1).getD i (0, 0, 0)).2.1) ∧ W.cell? ⟨P, i * 3 + 2, none⟩ = some (.int .u8 ((badL x1 x2 m3 m4 b m1).getD i (0, 0, 0)).2.2) := by
  subst hP hW
  intro i hi
  match i, hi with
  | 0, _ | 1, _ | 2, _ | 3, _ | 4, _ | 5, _ | 6, _ => simp [go_sem, badL]
theorem bad_wrong (x1 x2 m3 m4 b m1 : Int) (h3 : 3 ≤ m3) (h4 : 4 ≤ m4) (hb : 0 ≤ b ∧ b ≤ 1) (h1 : 1 ≤ m1) : ∀ i, i < 7 → rt ((badL x1 x2 m3 m4 b m1).getD i (0, 0, 0)).1 ((badL x1 x2 m3 m4 b m1).getD i (0, 0, 0)).2.1 ((badL x1 x2 m3 m4 b m1).getD i (0, 0, 0)).2.2 = false := by
  intro i hi
  match i, hi with
  | 0, _ => rfl
  | 1, _ => simp [badL, rt_eq]; omega
  | 2, _ => simp [badL, rt_eq]
  | 3, _ => simp [badL, rt_eq]; omega
  | 4, _ => simp [badL, rt_eq]; omega
  | 5, _ => simp [badL, rt_eq]; omega
  | 6, _ => rfl

theorem bad_all (w : World) (P : Nat) (W : World) (hP : w.heap.size = P) (x1 x2 m3 m4 b m1 : Int) (hx1 : 0 ≤ x1 ∧ x1 ≤ 255) (hx2 : 0 ≤ x2 ∧ x2 ≤ 255) (h3 : 3 ≤ m3 ∧ m3 ≤ 255) (h4 : 4 ≤ m4 ∧ m4 ≤ 255) (hb : 0 ≤ b ∧ b ≤ 1) (h1 : 1 ≤ m1 ∧ m1 ≤ 255)
    (hW : w.alloc (.cells #[.int .u8 0, .int .u8 0, .int .u8 0, .int .u8 x1, .int .u8 m3, .int .u8 x2, .int .u8 x1, .int .u8 0, .int .u8 x2, .int .u8 m4, .int .u8 1, .int .u8 x2, .int .u8 b, .int .u8 1, .int .u8 0, .int .u8 2, .int .u8 2, .int .u8 m1, .int .u8 3, .int .u8 1, .int .u8 14] 23) = W) :
    ∀ i, i < 7 → ∃ a b c : Int, (0 ≤ a ∧ a ≤ 255) ∧ (0 ≤ c ∧ c ≤ 255) ∧ rt a b c = false ∧ W.cell? ⟨P, i * 3, none⟩ = some (.int .u8 a) ∧ W.cell? ⟨P, i * 3 + 1, none⟩ = some (.int .u8 b) ∧ W.cell? ⟨P, i * 3 + 2, none⟩ = some (.int .u8 c) := by
  intro i hi
  have hl := bad_lies w P W hP x1 x2 m3 m4 b m1 hW i hi
  have hn := bad_wrong x1 x2 m3 m4 b m1 h3.1 h4.1 hb h1.1 i hi
  refine ⟨_, _, _, ?_, ?_, hn, hl⟩
  all_goals
    match i, hi with
    | 0, _ | 1, _ | 2, _ | 3, _ | 4, _ | 5, _ | 6, _ => simp [badL] <;> omega
theorem st_wrong {a b c : Int} (h : rt a b c = false) (d kind typ : Int) : stF a b c d kind typ = (0, 0, 0) ∧ alw a b c d kind typ = false := by
  have e : alw a b c d kind typ = false := by simp [alw, h]
  exact ⟨by rw [stF, e]; rfl, e⟩
theorem st_dir (a b c d kind typ : Int) (h : 1 < d) : stF a b c d kind typ = (0, 0, 0) ∧ alw a b c d kind typ = false := by
  have e : alw a b c d kind typ = false := by simp [alw]; intro _ h2; omega
  exact ⟨by rw [stF, e]; rfl, e⟩
theorem st_kind (a b c d kk ty : Int) (h2 : kk ≠ 2) (h3 : kk ≠ 3) (h4 : kk ≠ 4) : stF a b c d kk ty = (0, 0, 0) ∧ alw a b c d kk ty = false := by
  have e : alw a b c d kk ty = false := by
    simp [alw, allowsQ]
    intro _ _
    split
    · exact h2
    · split
      · intro h; exact absurd h h3
      · intro h; exact absurd h h4
  exact ⟨by rw [stF, e]; rfl, e⟩
theorem four_lies (w : World) (P : Nat) (W : World) (hP : w.heap.size = P) (m6 : Int) (h6 : 6 ≤ m6 ∧ m6 ≤ 255) (hW : w.alloc (.cells #[.int .u8 1, .int .u8 5, .int .u8 0, .int .u8 m6] 5) = W) :
    ∀ i, i < 4 → ∃ a : Int, (0 ≤ a ∧ a ≤ 255) ∧ a ≠ 2 ∧ a ≠ 3 ∧ a ≠ 4 ∧ W.cell? ⟨P, i, none⟩ = some (.int .u8 a) := by
  subst hP hW
  intro i hi
  match i, hi with
  | 0, _ => exact ⟨1, by omega, by omega, by omega, by omega, by simp [go_sem]⟩
  | 1, _ => exact ⟨5, by omega, by omega, by omega, by omega, by simp [go_sem]⟩
  | 2, _ => exact ⟨0, by omega, by omega, by omega, by omega, by simp [go_sem]⟩
  | 3, _ => exact ⟨m6, by omega, by omega, by omega, by omega, by simp [go_sem]⟩

theorem opens_no {kk t : Int} (h2 : kk ≠ 2) (h3 : kk ≠ 3) : opens kk t = false := by simp [opens, h2, h3]
theorem nme_no {m : Int} (h : 3 ≤ m) : nme m = ⟨#[]⟩ := by
  unfold nme
  rw [if_neg (by omega), if_neg (by omega)]
theorem rt_open {k t : Int} (h : opens k t = true) : rt k 1 (typOf k t) = true := by
  simp [opens] at h
  rcases h with rfl | ⟨rfl, h⟩
  · rfl
  · simp [rt, opens, typOf, h]

set_option maxRecDepth 100000 in
set_option maxHeartbeats 4000000 in
theorem wrong_yes (d k t kd st dr K T : Int) (F : List Value) (SV : Array Value) (w : World) (HA : Hid (Ans w)) (hd : 0 ≤ d ∧ d ≤ 255) (hk : 0 ≤ k ∧ k ≤ 255) (ht : 0 ≤ t ∧ t ≤ 255) (hkd : 0 ≤ kd ∧ kd ≤ 255) (hst : 0 ≤ st ∧ st ≤ 255) (hdr : 0 ≤ dr ∧ dr ≤ 255)
    (HK : Hid (kdW k = K)) (HT : Hid (tyW t = T)) (HF : Hid (sF K k T = F)) (HSV : Hid ((Value.int .u8 (d % 2) :: F).toArray = SV)) (HFa : Hid (Fa F.toArray K T)) (H20 : Hid (SV.size = 20)) (Hone : Hid (SV.all (·.oneCell') = true))
    (hK1 : 0 ≤ K ∧ K ≤ 255) (hT1 : 0 ≤ T ∧ T ≤ 255) (ho : Hid (opens K T = true)) :
    Calls Tryd.prog 6 #[.agg #[.int .u8 d, .int .u8 k, .int .u8 t], .int .u8 kd, .int .u8 st, .int .u8 dr] w fun e w' => e = .returned (.bool true) ∧ Below w.heap.size w w' := by
  have HI : Hid ((Tryd.prog.info? 35).map (·.size) = some SV.size) := by rw [H20.out]; exact info35
  have HI9 := Lib.hid HFa.out.hi
  obtain ⟨m1, hm1⟩ : ∃ m : Int, (if kd < 1 then 1 else kd) = m := ⟨_, rfl⟩
  obtain ⟨m4, hm4⟩ : ∃ m : Int, (if kd < 4 then 4 else kd) = m := ⟨_, rfl⟩
  obtain ⟨m6, hm6⟩ : ∃ m : Int, (if kd < 6 then 6 else kd) = m := ⟨_, rfl⟩
  obtain ⟨m3, hm3⟩ : ∃ m : Int, (if st < 3 then 3 else st) = m := ⟨_, rfl⟩
  obtain ⟨m2, hm2⟩ : ∃ m : Int, (if dr < 2 then 2 else dr) = m := ⟨_, rfl⟩
  have g1 : 1 ≤ m1 ∧ m1 ≤ 255 := by subst hm1; split <;> omega
  have g4 : 4 ≤ m4 ∧ m4 ≤ 255 := by subst hm4; split <;> omega
  have g6 : 6 ≤ m6 ∧ m6 ≤ 255 := by subst hm6; split <;> omega
  have g3 : 3 ≤ m3 ∧ m3 ≤ 255 := by subst hm3; split <;> omega
  have g2 : 2 ≤ m2 ∧ m2 ≤ 255 := by subst hm2; split <;> omega
  go_enter Tryd.func6, Tryd.ntmps6
  go_wp2_with fail
  refine (awake_any _ (HA.out.below (by (repeat' (first | exact Below.refl _ _ | refine Below.setCell ?_ (by first | omega | (simp; done) | (simp; omega)) _ | refine Below.alloc ?_ (by first | omega | (simp; done) | (simp; omega)) _))))).mono ?_
  rintro e w1 ⟨rfl, hb⟩
  have b1 : Below w.heap.size w w1 := bthen (by (repeat' (first | exact Below.refl _ _ | refine Below.setCell ?_ (by first | omega | (simp; done) | (simp; omega)) _ | refine Below.alloc ?_ (by first | omega | (simp; done) | (simp; omega)) _))) hb
  have d1 : Below w.heap.size w w1 := b1
  have k1 : w.heap.size ≤ w1.heap.size := d1.size
  have x0_1 : w1.cell? ⟨w.heap.size, 0, none⟩ = some (.int .u8 d) := (hb.cell (p := ⟨w.heap.size, 0, none⟩) (by first | (simp; done) | (simp; omega))).trans (by simp [go_sem])
  have x1_1 : w1.cell? ⟨w.heap.size, 1, none⟩ = some (.int .u8 k) := (hb.cell (p := ⟨w.heap.size, 1, none⟩) (by first | (simp; done) | (simp; omega))).trans (by simp [go_sem])
  have x2_1 : w1.cell? ⟨w.heap.size, 2, none⟩ = some (.int .u8 t) := (hb.cell (p := ⟨w.heap.size, 2, none⟩) (by first | (simp; done) | (simp; omega))).trans (by simp [go_sem])
  have zx_1 : w.heap.size < w1.heap.size := by have := hb.size; simp at this; omega
  clear hb
  go_wp2_with fail
  refine (seen_any d k t _ hd hk ht).mono ?_
  rintro e w2 ⟨he, hb⟩
  rw [HK.out, HT.out, HF.out, HSV.out] at he
  subst he
  have b2 : Below w1.heap.size w1 w2 := bthen (by (repeat' (first | exact Below.refl _ _ | refine Below.setCell ?_ (by first | omega | (simp; done) | (simp; omega)) _ | refine Below.alloc ?_ (by first | omega | (simp; done) | (simp; omega)) _))) hb
  have d2 : Below w.heap.size w w2 := bthen d1 b2
  have k2 : w.heap.size ≤ w2.heap.size := d2.size
  have x0_2 : w2.cell? ⟨w.heap.size, 0, none⟩ = some (.int .u8 d) := (b2.cell (p := ⟨w.heap.size, 0, none⟩) (by show w.heap.size < w1.heap.size; omega)).trans x0_1
  have x1_2 : w2.cell? ⟨w.heap.size, 1, none⟩ = some (.int .u8 k) := (b2.cell (p := ⟨w.heap.size, 1, none⟩) (by show w.heap.size < w1.heap.size; omega)).trans x1_1
  have x2_2 : w2.cell? ⟨w.heap.size, 2, none⟩ = some (.int .u8 t) := (b2.cell (p := ⟨w.heap.size, 2, none⟩) (by show w.heap.size < w1.heap.size; omega)).trans x2_1
  have zx_2 : w.heap.size < w2.heap.size := Nat.lt_of_lt_of_le zx_1 b2.size
  clear hb b2 d1 k1 x0_1 x1_1 x2_1 zx_1
  clear x0_2 x1_2 x2_2 zx_2
  go_wp2_with (first | (refine wpList_store_wide 35 _ _ rfl rfl w2.heap.size 0 SV rfl rfl w.heap.size w HI.out Hone.out (d2.alloc k2 _) k2 (there_new _ _ _ _ _ rfl ?_) ?_; (· (rw [H20.out]; rfl)); intro v1 e1 z1 r1 _ t1 _; have R1 := (open_wide _ _ _ _ (by rw [← HSV.out] at r1; exact r1)).2; have T1 := there_sub (n := 19) (t1 _ _ _ (there_new _ _ _ _ _ rfl rfl)); have y1 : w2.heap.size < v1.heap.size := (by rw [z1]; simp); have y2 : w.heap.size ≤ v1.heap.size := e1.size; clear r1 t1 z1) | (refine wpList_load_wide 29 _ rfl (by rfl) _ _ rfl F.toArray _ Tryd.underlying29 rfl HI9.out R1 ?_))
  have hBw : w.heap.size ≤ w2.heap.size := k2
  clear d2 k2
  refine (open_is F.toArray K T (K, 1, typOf K T) true _ HFa.out (HA.out.below e1) (by rw [opn, ho.out]; rfl) ho.out).mono ?_
  rintro e v2 ⟨rfl, hb⟩
  have e2 := bthen e1 hb
  have R2 := range_below hb y1 R1
  have T2 := there_below hb y1 T1
  have y3 : w2.heap.size < v2.heap.size := Nat.lt_of_lt_of_le y1 hb.size
  have y4 : w.heap.size ≤ v2.heap.size := e2.size
  clear e1 R1 T1 y1 y2 hb
  go_wp2_with fail
  obtain ⟨P, hP⟩ : ∃ P, v2.heap.size = P := ⟨_, rfl⟩
  rw [hP]
  generalize hW : World.alloc (World.alloc v2 _) _ = W
  have hbW : Below w.heap.size w W := by subst hW; exact (e2.alloc y4 _).alloc (by simp; omega) _
  have RW : W.rangeAt w2.heap.size 1 F.toArray.toList := by subst hW; exact World.rangeAt_alloc (World.rangeAt_alloc R2 _) _
  have p0 : W.cell? ⟨P, 0, none⟩ = some (.int .u8 K) := by subst hW hP; simp [go_sem]
  have p1 : W.cell? ⟨P, 1, none⟩ = some (.int .u8 1) := by subst hW hP; simp [go_sem]
  have p2 : W.cell? ⟨P, 2, none⟩ = some (.int .u8 (typOf K T)) := by subst hW hP; simp [go_sem]
  have hx1 : (0 : Int) ≤ K ∧ (K : Int) ≤ 255 := by omega
  have hx2 : (0 : Int) ≤ (typOf K T) ∧ ((typOf K T) : Int) ≤ 255 := by unfold typOf; split <;> omega
  have HQ := Lib.hid (bad_all (v2.alloc _) (P + 1) W (by simp [hP]) K (typOf K T) m3 m4 (kd % 2) m1 hx1 hx2 g3 g4 (by omega) g1 hW)
  have hPW : P + 1 < W.heap.size := by subst hW hP; simp
  have hBW : w2.heap.size < W.heap.size := by subst hW; simp; omega
  have hP0 : P < W.heap.size := by omega
  clear hW e2 R2 T2 y3 y4 hP
  go_loopw [73] (fun i wr => ∃ j : Nat, j ≤ 7 ∧ i = .int .i64 j ∧ Below W.heap.size W wr) (fun i _ => 7 - (intOf i).toNat)
  case atStart => exact ⟨0, by omega, rfl, Below.refl _ _⟩
  case round =>
    obtain ⟨j, hj, rfl, hb⟩ := hrel
    have hbw := bthen hbW hb
    by_cases hjl : j < 7
    · obtain ⟨a, b, cc, ha, hcc, hrt, q0, q1, q2⟩ := HQ.out j hjl
      have c0 := kc hb q0
      have c1 := kc hb q1
      have c2 := kc hb q2
      have Rr := range_below hb hBW RW
      have Hrt := Lib.hid hrt
      have hBr : w2.heap.size < wr.heap.size := Nat.lt_of_lt_of_le hBW hb.size
      have hjd : decide ((j : Int) < 7) = true := by simp; omega
      clear q0 q1 q2 hrt
      go_wp2_with (refine wpList_load_wide 29 _ rfl (by rfl) _ _ rfl F.toArray _ Tryd.underlying29 rfl HI9.out ?_ ?_; · (repeat (first | with_reducible exact Rr | refine World.rangeAt_alloc ?_ _)))
      refine (step_is F.toArray a b cc 0 K T (0, 0, 0) false _ HFa.out (HA.out.below (by (repeat' (first | with_reducible exact hbw | refine Below.alloc ?_ (by first | exact hbw.size | (have := hbw.size; simp; omega)) _)))) ha hcc (by decide) (st_wrong Hrt.out _ _ _).1 (st_wrong Hrt.out _ _ _).2).mono ?_
      rintro e u1 ⟨rfl, hu⟩
      have l0 : u1.cell? ⟨wr.heap.size, 0, none⟩ = some (.int .u8 a) := (hu.cell (p := ⟨wr.heap.size, 0, none⟩) (by simp)).trans (by simp [go_sem])
      have l1 : u1.cell? ⟨wr.heap.size, 1, none⟩ = some (.int .u8 b) := (hu.cell (p := ⟨wr.heap.size, 1, none⟩) (by simp)).trans (by simp [go_sem])
      have l2 : u1.cell? ⟨wr.heap.size, 2, none⟩ = some (.int .u8 cc) := (hu.cell (p := ⟨wr.heap.size, 2, none⟩) (by simp)).trans (by simp [go_sem])
      have hu1 : Below wr.heap.size wr u1 := bthen ((Below.refl _ _).alloc (Nat.le_refl _) _) hu
      have hbu := bthen hbw hu1
      have hlu : wr.heap.size < u1.heap.size := by have := hu.size; simp at this; omega
      clear hu
      go_wp2_with fail
      refine (right_is a b cc false _ ha hcc (HA.out.below (by (repeat' (first | with_reducible exact hbu | refine Below.alloc ?_ (by first | exact hbu.size | (have := hbu.size; simp; omega)) _)))) Hrt.out).mono ?_
      rintro e u2 ⟨rfl, hu⟩
      have hu2 : Below u1.heap.size u1 u2 := bthen ((Below.refl _ _).alloc (Nat.le_refl _) _) hu
      have hbe := bthen (bthen hb hu1) hu2
      clear hu
      go_wp2_with fail
      go_roundw
      case rel => exact ⟨j + 1, by omega, by go_num, hbe⟩
      case measure => simp [intOf]; omega
    · obtain rfl : j = 7 := by omega
      have p0 := kc hb p0
      have p1 := kc hb p1
      have p2 := kc hb p2
      have Rr := range_below hb hBW RW
      have hPr : P < wr.heap.size := Nat.lt_of_lt_of_le hP0 hb.size
      clear RW hb HQ hBW hP0 hbW
      go_wp2_with (refine wpList_load_wide 29 _ rfl (by rfl) _ _ rfl F.toArray _ Tryd.underlying29 rfl HI9.out ?_ ?_; · (repeat (first | with_reducible exact Rr | refine World.rangeAt_alloc ?_ _)))
      refine (step_is F.toArray K 1 (typOf K T) m2 K T (0, 0, 0) false _ HFa.out (HA.out.below hbw) hx1 hx2 (by omega) (st_dir _ _ _ _ _ _ (by omega)).1 (st_dir _ _ _ _ _ _ (by omega)).2).mono ?_
      rintro e u1 ⟨rfl, hu⟩
      have l0 := kc hu p0
      have l1 := kc hu p1
      have l2 := kc hu p2
      have hbu := bthen hbw hu
      have hPu : P < u1.heap.size := Nat.lt_of_lt_of_le hPr hu.size
      clear hu hbw p0 p1 p2 Rr hPr
      go_wp2_with fail
      obtain ⟨Q, hQ⟩ : ∃ Q, u1.heap.size + 1 = Q := ⟨_, rfl⟩
      rw [hQ]
      generalize hV : World.alloc (World.alloc u1 _) _ = V
      have HQ4 := Lib.hid (four_lies (u1.alloc _) Q V (by simpa using hQ) m6 g6 hV)
      have hbV : Below w.heap.size w V := by subst hV; exact (hbu.alloc hbu.size _).alloc (by have := hbu.size; simp; omega) _
      have hV1 : Below u1.heap.size u1 V := by subst hV; exact ((Below.refl _ _).alloc (Nat.le_refl _) _).alloc (by simp) _
      have p0 := kc hV1 l0
      have p1 := kc hV1 l1
      have p2 := kc hV1 l2
      clear hV hV1 hQ l0 l1 l2 hbu hPu
      go_loopw [114] (fun i wr => ∃ j : Nat, j ≤ 4 ∧ i = .int .i64 j ∧ Below V.heap.size V wr) (fun i _ => 4 - (intOf i).toNat)
      case atStart => exact ⟨0, by omega, rfl, Below.refl _ _⟩
      case round =>
        obtain ⟨j, hj, rfl, hb⟩ := hrel
        by_cases hjl : j < 4
        · obtain ⟨kk, hkk, n2, n3, n4, q0⟩ := HQ4.out j hjl
          have c0 := kc hb q0
          have hjd : decide ((j : Int) < 4) = true := by simp; omega
          have N2 := Lib.hid n2
          have N3 := Lib.hid n3
          have N4 := Lib.hid n4
          clear q0 n2 n3 n4
          go_wp2_with fail
          obtain ⟨wo, rfl⟩ : ∃ wo : World, wo = wr := ⟨_, rfl⟩
          clear c0
          go_loopw [118] (fun i wr => ∃ dd : Nat, dd ≤ 2 ∧ i = .int .u8 dd ∧ Below V.heap.size V wr) (fun i _ => 2 - (intOf i).toNat)
          case atStart => exact ⟨0, by omega, rfl, hb⟩
          case round =>
            obtain ⟨dd, hdd, rfl, hb1⟩ := hrel
            clear hb
            have hbw := bthen hbV hb1
            by_cases hdl : dd < 2
            · have c0 := kc hb1 p0
              have c1 := kc hb1 p1
              have c2 := kc hb1 p2
              have hdd2 : decide ((dd : Int) < 2) = true := by simp; omega
              go_wp2_with fail
              refine (step_is (pkt kk (typOf K T)) K 1 (typOf K T) dd kk (typOf K T) (0, 0, 0) false _ (fa_pkt _ _ hkk hx2) (HA.out.below hbw) hx1 hx2 (by omega) (st_kind _ _ _ _ _ _ N2.out N3.out N4.out).1 (st_kind _ _ _ _ _ _ N2.out N3.out N4.out).2).mono ?_
              rintro e u2 ⟨rfl, hu⟩
              have hbe : Below V.heap.size V u2 := bthen hb1 hu
              clear hu
              go_wp2_with fail
              go_roundw
              case rel => exact ⟨dd + 1, by omega, by go_num, hbe.alloc hbe.size _⟩
              case measure => simp [intOf]; omega
            · have hdd2 : decide ((dd : Int) < 2) = false := by simp; omega
              go_wp2_with fail
              refine (open_is (pkt kk 8) kk 8 (0, 0, 0) false _ (fa_pkt _ _ hkk (by decide)) (HA.out.below hbw) (by rw [opn, opens_no N2.out N3.out]; rfl) (opens_no N2.out N3.out)).mono ?_
              rintro e u2 ⟨rfl, hu⟩
              have hbe : Below V.heap.size V u2 := bthen hb1 hu
              clear hu
              go_wp2_with fail
              go_roundw
              case rel => exact ⟨j + 1, by omega, by go_num, hbe.alloc hbe.size _⟩
              case measure => simp [intOf]; omega
        · have hjd : decide ((j : Int) < 4) = false := by simp; omega
          have hbw := bthen hbV hb
          have c0 := kc hb p0
          have c1 := kc hb p1
          have c2 := kc hb p2
          clear p0 p1 p2 hb hbV HQ4
          go_wp2_with fail
          refine (right_is K 1 (typOf K T) true _ hx1 hx2 (HA.out.below hbw) (rt_open ho.out)).mono ?_
          rintro e u2 ⟨rfl, hu⟩
          go_wp2_with fail
          refine (name_is m3 ⟨#[]⟩ _ (nme_no (by omega))).mono ?_
          rintro e w' ⟨rfl, rfl⟩
          go_wp2_with fail
          go_ret
          exact ⟨by first | rfl | simp, bthen hbw hu⟩

set_option maxRecDepth 100000 in
set_option maxHeartbeats 4000000 in
theorem wrong_no (d k t kd st dr K T : Int) (F : List Value) (SV : Array Value) (w : World) (HA : Hid (Ans w)) (hd : 0 ≤ d ∧ d ≤ 255) (hk : 0 ≤ k ∧ k ≤ 255) (ht : 0 ≤ t ∧ t ≤ 255) (hkd : 0 ≤ kd ∧ kd ≤ 255) (hst : 0 ≤ st ∧ st ≤ 255) (hdr : 0 ≤ dr ∧ dr ≤ 255)
    (HK : Hid (kdW k = K)) (HT : Hid (tyW t = T)) (HF : Hid (sF K k T = F)) (HSV : Hid ((Value.int .u8 (d % 2) :: F).toArray = SV)) (HFa : Hid (Fa F.toArray K T)) (H20 : Hid (SV.size = 20)) (Hone : Hid (SV.all (·.oneCell') = true))
    (hK1 : 0 ≤ K ∧ K ≤ 255) (hT1 : 0 ≤ T ∧ T ≤ 255) (ho : Hid (opens K T = false)) :
    Calls Tryd.prog 6 #[.agg #[.int .u8 d, .int .u8 k, .int .u8 t], .int .u8 kd, .int .u8 st, .int .u8 dr] w fun e w' => e = .returned (.bool true) ∧ Below w.heap.size w w' := by
  have HI : Hid ((Tryd.prog.info? 35).map (·.size) = some SV.size) := by rw [H20.out]; exact info35
  have HI9 := Lib.hid HFa.out.hi
  obtain ⟨m1, hm1⟩ : ∃ m : Int, (if kd < 1 then 1 else kd) = m := ⟨_, rfl⟩
  obtain ⟨m4, hm4⟩ : ∃ m : Int, (if kd < 4 then 4 else kd) = m := ⟨_, rfl⟩
  obtain ⟨m6, hm6⟩ : ∃ m : Int, (if kd < 6 then 6 else kd) = m := ⟨_, rfl⟩
  obtain ⟨m3, hm3⟩ : ∃ m : Int, (if st < 3 then 3 else st) = m := ⟨_, rfl⟩
  obtain ⟨m2, hm2⟩ : ∃ m : Int, (if dr < 2 then 2 else dr) = m := ⟨_, rfl⟩
  have g1 : 1 ≤ m1 ∧ m1 ≤ 255 := by subst hm1; split <;> omega
  have g4 : 4 ≤ m4 ∧ m4 ≤ 255 := by subst hm4; split <;> omega
  have g6 : 6 ≤ m6 ∧ m6 ≤ 255 := by subst hm6; split <;> omega
  have g3 : 3 ≤ m3 ∧ m3 ≤ 255 := by subst hm3; split <;> omega
  have g2 : 2 ≤ m2 ∧ m2 ≤ 255 := by subst hm2; split <;> omega
  go_enter Tryd.func6, Tryd.ntmps6
  go_wp2_with fail
  refine (awake_any _ (HA.out.below (by (repeat' (first | exact Below.refl _ _ | refine Below.setCell ?_ (by first | omega | (simp; done) | (simp; omega)) _ | refine Below.alloc ?_ (by first | omega | (simp; done) | (simp; omega)) _))))).mono ?_
  rintro e w1 ⟨rfl, hb⟩
  have b1 : Below w.heap.size w w1 := bthen (by (repeat' (first | exact Below.refl _ _ | refine Below.setCell ?_ (by first | omega | (simp; done) | (simp; omega)) _ | refine Below.alloc ?_ (by first | omega | (simp; done) | (simp; omega)) _))) hb
  have d1 : Below w.heap.size w w1 := b1
  have k1 : w.heap.size ≤ w1.heap.size := d1.size
  have x0_1 : w1.cell? ⟨w.heap.size, 0, none⟩ = some (.int .u8 d) := (hb.cell (p := ⟨w.heap.size, 0, none⟩) (by first | (simp; done) | (simp; omega))).trans (by simp [go_sem])
  have x1_1 : w1.cell? ⟨w.heap.size, 1, none⟩ = some (.int .u8 k) := (hb.cell (p := ⟨w.heap.size, 1, none⟩) (by first | (simp; done) | (simp; omega))).trans (by simp [go_sem])
  have x2_1 : w1.cell? ⟨w.heap.size, 2, none⟩ = some (.int .u8 t) := (hb.cell (p := ⟨w.heap.size, 2, none⟩) (by first | (simp; done) | (simp; omega))).trans (by simp [go_sem])
  have zx_1 : w.heap.size < w1.heap.size := by have := hb.size; simp at this; omega
  clear hb
  go_wp2_with fail
  refine (seen_any d k t _ hd hk ht).mono ?_
  rintro e w2 ⟨he, hb⟩
  rw [HK.out, HT.out, HF.out, HSV.out] at he
  subst he
  have b2 : Below w1.heap.size w1 w2 := bthen (by (repeat' (first | exact Below.refl _ _ | refine Below.setCell ?_ (by first | omega | (simp; done) | (simp; omega)) _ | refine Below.alloc ?_ (by first | omega | (simp; done) | (simp; omega)) _))) hb
  have d2 : Below w.heap.size w w2 := bthen d1 b2
  have k2 : w.heap.size ≤ w2.heap.size := d2.size
  have x0_2 : w2.cell? ⟨w.heap.size, 0, none⟩ = some (.int .u8 d) := (b2.cell (p := ⟨w.heap.size, 0, none⟩) (by show w.heap.size < w1.heap.size; omega)).trans x0_1
  have x1_2 : w2.cell? ⟨w.heap.size, 1, none⟩ = some (.int .u8 k) := (b2.cell (p := ⟨w.heap.size, 1, none⟩) (by show w.heap.size < w1.heap.size; omega)).trans x1_1
  have x2_2 : w2.cell? ⟨w.heap.size, 2, none⟩ = some (.int .u8 t) := (b2.cell (p := ⟨w.heap.size, 2, none⟩) (by show w.heap.size < w1.heap.size; omega)).trans x2_1
  have zx_2 : w.heap.size < w2.heap.size := Nat.lt_of_lt_of_le zx_1 b2.size
  clear hb b2 d1 k1 x0_1 x1_1 x2_1 zx_1
  clear x0_2 x1_2 x2_2 zx_2
  go_wp2_with (first | (refine wpList_store_wide 35 _ _ rfl rfl w2.heap.size 0 SV rfl rfl w.heap.size w HI.out Hone.out (d2.alloc k2 _) k2 (there_new _ _ _ _ _ rfl ?_) ?_; (· (rw [H20.out]; rfl)); intro v1 e1 z1 r1 _ t1 _; have R1 := (open_wide _ _ _ _ (by rw [← HSV.out] at r1; exact r1)).2; have T1 := there_sub (n := 19) (t1 _ _ _ (there_new _ _ _ _ _ rfl rfl)); have y1 : w2.heap.size < v1.heap.size := (by rw [z1]; simp); have y2 : w.heap.size ≤ v1.heap.size := e1.size; clear r1 t1 z1) | (refine wpList_load_wide 29 _ rfl (by rfl) _ _ rfl F.toArray _ Tryd.underlying29 rfl HI9.out R1 ?_))
  have hBw : w.heap.size ≤ w2.heap.size := k2
  clear d2 k2
  refine (open_is F.toArray K T (0, 0, 0) false _ HFa.out (HA.out.below e1) (by rw [opn, ho.out]; rfl) ho.out).mono ?_
  rintro e v2 ⟨rfl, hb⟩
  have e2 := bthen e1 hb
  have R2 := range_below hb y1 R1
  have T2 := there_below hb y1 T1
  have y3 : w2.heap.size < v2.heap.size := Nat.lt_of_lt_of_le y1 hb.size
  have y4 : w.heap.size ≤ v2.heap.size := e2.size
  clear e1 R1 T1 y1 y2 hb
  go_wp2_with fail
  refine (open_is (pkt 2 0) 2 0 (2, 1, 0) true _ (fa_pkt 2 0 (by decide) (by decide)) (HA.out.below (e2.alloc y4 _)) rfl rfl).mono ?_
  rintro e v3 ⟨rfl, hb⟩
  have hb2 : Below v2.heap.size v2 v3 := bthen ((Below.refl _ _).alloc (Nat.le_refl _) _) hb
  have e3 := bthen e2 hb2
  have T3 := there_below hb2 y3 T2
  have y5 : w2.heap.size < v3.heap.size := Nat.lt_of_lt_of_le y3 hb2.size
  have y6 : w.heap.size ≤ v3.heap.size := e3.size
  obtain ⟨P, hP⟩ : ∃ P, v2.heap.size = P := ⟨_, rfl⟩
  rw [hP]
  have z0 : v3.cell? ⟨P, 0, none⟩ = some (.int .u8 0) := (hb.cell (p := ⟨P, 0, none⟩) (by simp [hP])).trans (by subst hP; simp [go_sem])
  have z1 : v3.cell? ⟨P, 1, none⟩ = some (.int .u8 0) := (hb.cell (p := ⟨P, 1, none⟩) (by simp [hP])).trans (by subst hP; simp [go_sem])
  have z2 : v3.cell? ⟨P, 2, none⟩ = some (.int .u8 0) := (hb.cell (p := ⟨P, 2, none⟩) (by simp [hP])).trans (by subst hP; simp [go_sem])
  have f0 : v3.frozen? ⟨P, 0, none⟩ = false := (hb.frozen (p := ⟨P, 0, none⟩) (by simp [hP])).trans (by subst hP; simp [go_sem])
  have f1 : v3.frozen? ⟨P, 1, none⟩ = false := (hb.frozen (p := ⟨P, 1, none⟩) (by simp [hP])).trans (by subst hP; simp [go_sem])
  have f2 : v3.frozen? ⟨P, 2, none⟩ = false := (hb.frozen (p := ⟨P, 2, none⟩) (by simp [hP])).trans (by subst hP; simp [go_sem])
  have hPB : w2.heap.size < P := by omega
  have hPw : w.heap.size ≤ P := by omega
  have hPv : P < v3.heap.size := cell_lt z0
  have hne : P ≠ w2.heap.size := by omega
  clear hb hb2 e2 R2 T2 y3 y4
  go_wp2_with (refine wpList_store_wide 29 _ _ rfl rfl w2.heap.size 1 (pkt 2 0) rfl rfl w.heap.size w info29 (by decide +kernel) ?_ ?_ ?_ ?_; (· exact ((e3.setCell (p := ⟨P, 0, none⟩) hPw _).setCell (p := ⟨P, 1, none⟩) hPw _).setCell (p := ⟨P, 2, none⟩) hPw _); (· exact hBw); (· exact there_set3 T3); intro v4 e4 z4 R4 _ _ c4; have y7 : w.heap.size ≤ v4.heap.size := e4.size; have s0 := (c4 P 0 hne).trans (set3 hne z0 z1 z2 (.int .u8 2) (.int .u8 1) (.int .u8 0)).1; have s1 := (c4 P 1 hne).trans (set3 hne z0 z1 z2 (.int .u8 2) (.int .u8 1) (.int .u8 0)).2.1; have s2 := (c4 P 2 hne).trans (set3 hne z0 z1 z2 (.int .u8 2) (.int .u8 1) (.int .u8 0)).2.2; have y8 : P < v4.heap.size := cell_lt s0; have y9 : w2.heap.size < v4.heap.size := (by omega); clear c4 z4 z0 z1 z2 f0 f1 f2 T3 y5 y6 e3)
  obtain ⟨Q, hQ⟩ : ∃ Q, v4.heap.size = Q := ⟨_, rfl⟩
  rw [hQ]
  generalize hW : World.alloc v4 _ = W
  have hv4 : Below v4.heap.size v4 W := by subst hW; exact (Below.refl _ _).alloc (Nat.le_refl _) _
  have hbW : Below w.heap.size w W := bthen e4 hv4
  have RW : W.rangeAt w2.heap.size 1 (pkt 2 0).toList := range_below hv4 y9 R4
  have p0 := kc hv4 s0
  have p1 := kc hv4 s1
  have p2 := kc hv4 s2
  have hx1 : (0 : Int) ≤ 2 ∧ (2 : Int) ≤ 255 := by decide
  have hx2 : (0 : Int) ≤ 0 ∧ (0 : Int) ≤ 255 := by decide
  have HQ := Lib.hid (bad_all v4 Q W hQ 2 0 m3 m4 (kd % 2) m1 hx1 hx2 g3 g4 (by omega) g1 hW)
  have hBW : w2.heap.size < W.heap.size := Nat.lt_of_lt_of_le y9 hv4.size
  have hP0 : P < W.heap.size := Nat.lt_of_lt_of_le y8 hv4.size
  have HI9 : Hid ((Tryd.prog.info? 29).map (·.size) = some (pkt 2 0).toList.length) := info_pkt 2 0
  clear hW e4 R4 y7 y8 y9 s0 s1 s2 hv4 hQ hP hPB hPw hne
  go_loopw [73] (fun i wr => ∃ j : Nat, j ≤ 7 ∧ i = .int .i64 j ∧ Below W.heap.size W wr) (fun i _ => 7 - (intOf i).toNat)
  case atStart => exact ⟨0, by omega, rfl, Below.refl _ _⟩
  case round =>
    obtain ⟨j, hj, rfl, hb⟩ := hrel
    have hbw := bthen hbW hb
    by_cases hjl : j < 7
    · obtain ⟨a, b, cc, ha, hcc, hrt, q0, q1, q2⟩ := HQ.out j hjl
      have c0 := kc hb q0
      have c1 := kc hb q1
      have c2 := kc hb q2
      have Rr := range_below hb hBW RW
      have Hrt := Lib.hid hrt
      have hBr : w2.heap.size < wr.heap.size := Nat.lt_of_lt_of_le hBW hb.size
      have hjd : decide ((j : Int) < 7) = true := by simp; omega
      clear q0 q1 q2 hrt
      go_wp2_with (refine wpList_load_wide 29 _ rfl (by rfl) _ _ rfl (pkt 2 0) _ Tryd.underlying29 rfl HI9.out ?_ ?_; · (repeat (first | with_reducible exact Rr | refine World.rangeAt_alloc ?_ _)))
      refine (step_is (pkt 2 0) a b cc 0 2 0 (0, 0, 0) false _ (fa_pkt 2 0 (by decide) (by decide)) (HA.out.below (by (repeat' (first | with_reducible exact hbw | refine Below.alloc ?_ (by first | exact hbw.size | (have := hbw.size; simp; omega)) _)))) ha hcc (by decide) (st_wrong Hrt.out _ _ _).1 (st_wrong Hrt.out _ _ _).2).mono ?_
      rintro e u1 ⟨rfl, hu⟩
      have l0 : u1.cell? ⟨wr.heap.size, 0, none⟩ = some (.int .u8 a) := (hu.cell (p := ⟨wr.heap.size, 0, none⟩) (by simp)).trans (by simp [go_sem])
      have l1 : u1.cell? ⟨wr.heap.size, 1, none⟩ = some (.int .u8 b) := (hu.cell (p := ⟨wr.heap.size, 1, none⟩) (by simp)).trans (by simp [go_sem])
      have l2 : u1.cell? ⟨wr.heap.size, 2, none⟩ = some (.int .u8 cc) := (hu.cell (p := ⟨wr.heap.size, 2, none⟩) (by simp)).trans (by simp [go_sem])
      have hu1 : Below wr.heap.size wr u1 := bthen ((Below.refl _ _).alloc (Nat.le_refl _) _) hu
      have hbu := bthen hbw hu1
      have hlu : wr.heap.size < u1.heap.size := by have := hu.size; simp at this; omega
      clear hu
      go_wp2_with fail
      refine (right_is a b cc false _ ha hcc (HA.out.below (by (repeat' (first | with_reducible exact hbu | refine Below.alloc ?_ (by first | exact hbu.size | (have := hbu.size; simp; omega)) _)))) Hrt.out).mono ?_
      rintro e u2 ⟨rfl, hu⟩
      have hu2 : Below u1.heap.size u1 u2 := bthen ((Below.refl _ _).alloc (Nat.le_refl _) _) hu
      have hbe := bthen (bthen hb hu1) hu2
      clear hu
      go_wp2_with fail
      go_roundw
      case rel => exact ⟨j + 1, by omega, by go_num, hbe⟩
      case measure => simp [intOf]; omega
    · obtain rfl : j = 7 := by omega
      have p0 := kc hb p0
      have p1 := kc hb p1
      have p2 := kc hb p2
      have Rr := range_below hb hBW RW
      have hPr : P < wr.heap.size := Nat.lt_of_lt_of_le hP0 hb.size
      clear RW hb HQ hBW hP0 hbW
      go_wp2_with (refine wpList_load_wide 29 _ rfl (by rfl) _ _ rfl (pkt 2 0) _ Tryd.underlying29 rfl HI9.out ?_ ?_; · (repeat (first | with_reducible exact Rr | refine World.rangeAt_alloc ?_ _)))
      refine (step_is (pkt 2 0) 2 1 0 m2 2 0 (0, 0, 0) false _ (fa_pkt 2 0 (by decide) (by decide)) (HA.out.below hbw) hx1 hx2 (by omega) (st_dir _ _ _ _ _ _ (by omega)).1 (st_dir _ _ _ _ _ _ (by omega)).2).mono ?_
      rintro e u1 ⟨rfl, hu⟩
      have l0 := kc hu p0
      have l1 := kc hu p1
      have l2 := kc hu p2
      have hbu := bthen hbw hu
      have hPu : P < u1.heap.size := Nat.lt_of_lt_of_le hPr hu.size
      clear hu hbw p0 p1 p2 Rr hPr
      go_wp2_with fail
      obtain ⟨Q, hQ⟩ : ∃ Q, u1.heap.size + 1 = Q := ⟨_, rfl⟩
      rw [hQ]
      generalize hV : World.alloc (World.alloc u1 _) _ = V
      have HQ4 := Lib.hid (four_lies (u1.alloc _) Q V (by simpa using hQ) m6 g6 hV)
      have hbV : Below w.heap.size w V := by subst hV; exact (hbu.alloc hbu.size _).alloc (by have := hbu.size; simp; omega) _
      have hV1 : Below u1.heap.size u1 V := by subst hV; exact ((Below.refl _ _).alloc (Nat.le_refl _) _).alloc (by simp) _
      have p0 := kc hV1 l0
      have p1 := kc hV1 l1
      have p2 := kc hV1 l2
      clear hV hV1 hQ l0 l1 l2 hbu hPu
      go_loopw [114] (fun i wr => ∃ j : Nat, j ≤ 4 ∧ i = .int .i64 j ∧ Below V.heap.size V wr) (fun i _ => 4 - (intOf i).toNat)
      case atStart => exact ⟨0, by omega, rfl, Below.refl _ _⟩
      case round =>
        obtain ⟨j, hj, rfl, hb⟩ := hrel
        by_cases hjl : j < 4
        · obtain ⟨kk, hkk, n2, n3, n4, q0⟩ := HQ4.out j hjl
          have c0 := kc hb q0
          have hjd : decide ((j : Int) < 4) = true := by simp; omega
          have N2 := Lib.hid n2
          have N3 := Lib.hid n3
          have N4 := Lib.hid n4
          clear q0 n2 n3 n4
          go_wp2_with fail
          obtain ⟨wo, rfl⟩ : ∃ wo : World, wo = wr := ⟨_, rfl⟩
          clear c0
          go_loopw [118] (fun i wr => ∃ dd : Nat, dd ≤ 2 ∧ i = .int .u8 dd ∧ Below V.heap.size V wr) (fun i _ => 2 - (intOf i).toNat)
          case atStart => exact ⟨0, by omega, rfl, hb⟩
          case round =>
            obtain ⟨dd, hdd, rfl, hb1⟩ := hrel
            clear hb
            have hbw := bthen hbV hb1
            by_cases hdl : dd < 2
            · have c0 := kc hb1 p0
              have c1 := kc hb1 p1
              have c2 := kc hb1 p2
              have hdd2 : decide ((dd : Int) < 2) = true := by simp; omega
              go_wp2_with fail
              refine (step_is (pkt kk 0) 2 1 0 dd kk 0 (0, 0, 0) false _ (fa_pkt _ _ hkk hx2) (HA.out.below hbw) hx1 hx2 (by omega) (st_kind _ _ _ _ _ _ N2.out N3.out N4.out).1 (st_kind _ _ _ _ _ _ N2.out N3.out N4.out).2).mono ?_
              rintro e u2 ⟨rfl, hu⟩
              have hbe : Below V.heap.size V u2 := bthen hb1 hu
              clear hu
              go_wp2_with fail
              go_roundw
              case rel => exact ⟨dd + 1, by omega, by go_num, hbe.alloc hbe.size _⟩
              case measure => simp [intOf]; omega
            · have hdd2 : decide ((dd : Int) < 2) = false := by simp; omega
              go_wp2_with fail
              refine (open_is (pkt kk 8) kk 8 (0, 0, 0) false _ (fa_pkt _ _ hkk (by decide)) (HA.out.below hbw) (by rw [opn, opens_no N2.out N3.out]; rfl) (opens_no N2.out N3.out)).mono ?_
              rintro e u2 ⟨rfl, hu⟩
              have hbe : Below V.heap.size V u2 := bthen hb1 hu
              clear hu
              go_wp2_with fail
              go_roundw
              case rel => exact ⟨j + 1, by omega, by go_num, hbe.alloc hbe.size _⟩
              case measure => simp [intOf]; omega
        · have hjd : decide ((j : Int) < 4) = false := by simp; omega
          have hbw := bthen hbV hb
          have c0 := kc hb p0
          have c1 := kc hb p1
          have c2 := kc hb p2
          clear p0 p1 p2 hb hbV HQ4
          go_wp2_with fail
          refine (right_is 2 1 0 true _ hx1 hx2 (HA.out.below hbw) rfl).mono ?_
          rintro e u2 ⟨rfl, hu⟩
          go_wp2_with fail
          refine (name_is m3 ⟨#[]⟩ _ (nme_no (by omega))).mono ?_
          rintro e w' ⟨rfl, rfl⟩
          go_wp2_with fail
          go_ret
          exact ⟨by first | rfl | simp, bthen hbw hu⟩

theorem streamWrong_walk (d k t kd st dr : Int) (w : World) (hA : Ans w) (hw : (0 ≤ d ∧ d ≤ 255) ∧ (0 ≤ k ∧ k ≤ 255) ∧ (0 ≤ t ∧ t ≤ 255)) (hkd : 0 ≤ kd ∧ kd ≤ 255) (hst : 0 ≤ st ∧ st ≤ 255) (hdr : 0 ≤ dr ∧ dr ≤ 255) :
    Calls Tryd.prog 6 #[.agg #[.int .u8 d, .int .u8 k, .int .u8 t], .int .u8 kd, .int .u8 st, .int .u8 dr] w fun e w' => e = .returned (.bool true) ∧ Below w.heap.size w w' := by
  obtain ⟨hd, hk, ht⟩ := hw
  have hK1 := kdW_range k hk.1
  have hT1 := tyW_range t ht
  have hFa := fa_sF (kdW k) k (tyW t) (by omega) hT1
  cases ho : opens (kdW k) (tyW t)
  · exact wrong_no d k t kd st dr _ _ _ _ w hA hd hk ht hkd hst hdr rfl rfl rfl rfl hFa rfl (show _ = _ by simp [sF, Value.oneCell']) (by omega) hT1 ho
  · exact wrong_yes d k t kd st dr _ _ _ _ w hA hd hk ht hkd hst hdr rfl rfl rfl rfl hFa rfl (show _ = _ by simp [sF, Value.oneCell']) (by omega) hT1 ho

end Go.Proofs.YtjmcpgagbjmfgaaDoor
