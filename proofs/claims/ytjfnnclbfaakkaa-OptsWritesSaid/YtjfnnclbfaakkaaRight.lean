/-
  The contract of package opts' Right. Conditions: the ranges of the bytes.
-/
import Derived.Test.YtjfnnclbfaakkaaMap
import Derived.Test.YtjfnnclbfaakkaaInv
import Derived.Test.YtjfnnclbfaakkaaWide
import Derived.Lib.Hide
import Derived.Deep.DeepCutAuto
namespace Go.Proofs.Ytjfnnclbfaakkaa
open Go.RowKit
set_option linter.unusedVariables false
set_option linter.unusedSimpArgs false

/-- Has an option of a kind with a shape it? -/
def shp (o : Op1) : Bool := if o.1 = 7 ∨ o.1 = 131 ∨ o.1 = 137 then adr o.2.length (o.2.getD 0 0) else if o.1 = 148 then o.2.length == 2 else if o.1 = 68 then stm o.2.length (o.2.getD 0 0) (o.2.getD 1 0) else true
/-- Is an option right? -/
def rightS (o : Op1) : Bool := if o.1 = 0 ∨ o.1 = 1 then o.1 == 1 && o.2.length == 0 else shp o && decide (o.2.length ≤ 38)

/-- What the done operations of a region have left: operation i the value val i, in g i; operation ia what P tells. -/
structure Ip (w1 : World) (val : Nat → Value) (ia : Nat) (P : Value → World → Prop) (D : Nat → Prop) (g : Nat → Value) (w' : World) : Prop where
  b : Below w1.heap.size w1 w'
  e : ∀ i, i ≠ ia → D i → g i = val i
  m : D ia → P (g ia) w'
theorem Ip.upd {w1 w' w'' : World} {val g : Nat → Value} {ia : Nat} {P : Value → World → Prop} {D : Nat → Prop} (hP : ∀ v X Y, P v X → Below X.heap.size X Y → P v Y) (h : Ip w1 val ia P D g w') (i : Nat) (x : Value) (hb : Below w'.heap.size w' w'') (hv : i ≠ ia → x = val i) (hm : i = ia → P x w'') : Ip w1 val ia P (fun j => D j ∨ j = i) (fun j => if j = i then x else g j) w'' := by
  refine ⟨bthen h.b hb, fun j hn hj => ?_, fun hj => ?_⟩
  · show (if j = i then x else g j) = val j
    by_cases hji : j = i
    · rw [if_pos hji, hv (hji ▸ hn), hji]
    · rw [if_neg hji]
      exact h.e j hn (hj.resolve_right hji)
  · by_cases hji : ia = i
    · rw [if_pos hji]
      exact hm hji.symm
    · rw [if_neg hji]
      exact hP _ _ _ (h.m (hj.resolve_right hji)) hb
theorem Ip.zero (w1 : World) (val g : Nat → Value) (ia : Nat) (P : Value → World → Prop) : Ip w1 val ia P (fun _ => False) g w1.drew := ⟨(Below.refl _ _).drew, fun _ _ h => h.elim, fun h => h.elim⟩

/-- The map of shapes lies in a block. -/
def IsMap (v : Value) (w : World) : Prop := ∃ b, v = .map (some b) ∧ w.ownsMap Try.prog 5 fnElem b 5 shapesD
theorem IsMap.below (v : Value) (X Y : World) (h : IsMap v X) (hb : Below X.heap.size X Y) : IsMap v Y := by
  obtain ⟨b, h1, h2⟩ := h
  exact ⟨b, h1, ownsMap_below h2 hb⟩

set_option maxHeartbeats 2000000 in
theorem right_any (k : Int) (d : List Int) (A : Option Addr) (c : Nat) (w : World) (hk : 0 ≤ k ∧ k ≤ 255) (hd : By w A d) (hn : d.length < 2 ^ 62) :
    Calls Try.prog 19 #[.agg #[.int .u8 k, .slice A d.length c]] w fun e w' => e = .returned (.bool (rightS (k, d))) ∧ Below w.heap.size w w' := by
  by_cases h0 : k = 0
  · subst h0
    have e : rightS (0, d) = false := by simp [rightS]
    rw [e]
    go_enter Try.func19, Try.ntmps19
    go_wp2_with fail
    go_ret
    exact ⟨rfl, (Below.refl _ _).alloc (Nat.le_refl _) _⟩
  by_cases h1 : k = 1
  · subst h1
    have e : rightS (1, d) = ((d.length : Int) == 0) := by
      simp [rightS]
      rw [Bool.eq_iff_iff]
      simp
    rw [e]
    go_enter Try.func19, Try.ntmps19
    go_wp2_with fail
    go_ret
    exact ⟨rfl, (Below.refl _ _).alloc (Nat.le_refl _) _⟩
  have b0 : (k == 0) = false := by simpa using h0
  have b1 : (k == 1) = false := by simpa using h1
  have hq : rightS (k, d) = (shp (k, d) && decide (d.length ≤ 38)) := by simp [rightS, h0, h1]
  have hdl : decide ((d.length : Int) ≤ 38) = decide (d.length ≤ 38) := decide_eq_decide.2 (by omega)
  obtain ⟨r, hr⟩ : ∃ r, rightS (k, d) = r := ⟨_, rfl⟩
  rw [hr]
  replace hr := Lib.hid (hq.symm.trans hr)
  go_enter Try.func19, Try.ntmps19
  go_upto_region 3 with fail
  obtain ⟨w1, hw1⟩ : ∃ w1, w.alloc (Obj.cells #[Value.int IntKind.u8 k, Value.slice A d.length c] 36) = w1 := ⟨_, rfl⟩
  have hB1 : Below w.heap.size w w1 := by rw [← hw1]; exact (Below.refl _ _).alloc (Nat.le_refl _) _
  have hz1 : w.heap.size < w1.heap.size := by rw [← hw1]; simp
  have c0 : w1.cell? ⟨w.heap.size, 0, none⟩ = some (.int .u8 k) := by rw [← hw1]; simp [go_sem]
  have c1 : w1.cell? ⟨w.heap.size, 1, none⟩ = some (.slice A d.length c) := by rw [← hw1]; simp [go_sem]
  rw [hw1]
  clear hw1
  go_cut [3, 4] (fun v3 v4 wx => v3 = fv k ∧ v4 = .bool (isS k) ∧ Below w1.heap.size w1 wx)
  case first =>
    refine wp_region_steps 8 [[], [], [1], [0, 2], [3], [4], [4], [5]] (fun D a w' => ∃ g : Nat → Value, a = ⟨#[.agg #[.int .u8 k, .slice A d.length c], .pointer (some ⟨w.heap.size, 0, none⟩), .bool false, g 7, undef, .pointer (some ⟨w.heap.size, 0, none⟩), .int .u8 k, .bool false, .bool false, .pointer (some ⟨w.heap.size, 0, none⟩), .int .u8 k, .bool false, .bool false, undef, undef, undef, undef, undef, undef, undef, undef, undef, g 4, g 0, g 1, g 2, g 3, g 5, g 6, undef, undef, undef, undef, undef, undef, undef, undef, undef, undef, undef, undef], []⟩ ∧ Ip w1 (fun i => ([undef, .pointer (some ⟨w.heap.size, 0, none⟩), .int .u8 k, .tuple #[fv k, .bool (isS k)], .tuple #[fv k, .bool (isS k)], fv k, .bool (isS k), fv k] : List Value).getD i undef) 0 IsMap D g w') (by kernel_rfl) (by kernel_rfl) ⟨fun _ => undef, rfl, Ip.zero w1 _ _ _ _⟩ ?_ ?_
    · simp only [List.take_succ_cons, List.take_zero]
      refine ⟨?_, ?_, ?_, ?_, ?_, ?_, ?_, ?_, trivial⟩
      · intro D a w' hn hp hI
        obtain ⟨g, rfl, hR⟩ := hI
        clear hn hp
        go_wp2_with fail
        refine (shapes_any _).mono ?_
        rintro e w'' ⟨bm, rfl, hm, hb9⟩
        go_wp2_with fail
        exact ⟨fun ix => if ix = 0 then .map (some bm) else g ix, by rfl, hR.upd IsMap.below 0 _ hb9 (fun h => absurd rfl h) (fun _ => ⟨bm, rfl, hm⟩)⟩
      · intro D a w' hn hp hI
        obtain ⟨g, rfl, hR⟩ := hI
        clear hn hp
        go_wp2_with fail
        exact ⟨fun ix => if ix = 1 then .pointer (some ⟨w.heap.size, 0, none⟩) else g ix, by rfl, hR.upd IsMap.below 1 _ (Below.refl _ _) (fun _ => rfl) (fun h => absurd h (by decide))⟩
      · intro D a w' hn hp hI
        obtain ⟨g, rfl, hR⟩ := hI
        have e1 : g 1 = .pointer (some ⟨w.heap.size, 0, none⟩) := hR.e 1 (by decide) hp.1
        rw [e1]
        have cc := kc hR.b c0
        clear hn hp
        go_wp2_with fail
        exact ⟨fun ix => if ix = 2 then .int .u8 k else g ix, by simp [e1], hR.upd IsMap.below 2 _ (Below.refl _ _) (fun _ => rfl) (fun h => absurd h (by decide))⟩
      · intro D a w' hn hp hI
        obtain ⟨g, rfl, hR⟩ := hI
        obtain ⟨bm, em, hm⟩ := hR.m hp.1
        have hl := look_shape hm k hk.1 hk.2
        rw [em]
        clear hm
        have e2 : g 2 = .int .u8 k := hR.e 2 (by decide) hp.2.1
        rw [e2]
        clear hn hp
        go_wp2_with fail
        exact ⟨fun ix => if ix = 3 then .tuple #[fv k, .bool (isS k)] else g ix, by simp [em, e2], hR.upd IsMap.below 3 _ (Below.refl _ _) (fun _ => rfl) (fun h => absurd h (by decide))⟩
      · intro D a w' hn hp hI
        obtain ⟨g, rfl, hR⟩ := hI
        have e3 : g 3 = .tuple #[fv k, .bool (isS k)] := hR.e 3 (by decide) hp.1
        rw [e3]
        clear hn hp
        go_wp2_with fail
        exact ⟨fun ix => if ix = 4 then .tuple #[fv k, .bool (isS k)] else g ix, by simp [e3], hR.upd IsMap.below 4 _ (Below.refl _ _) (fun _ => rfl) (fun h => absurd h (by decide))⟩
      · intro D a w' hn hp hI
        obtain ⟨g, rfl, hR⟩ := hI
        have e4 : g 4 = .tuple #[fv k, .bool (isS k)] := hR.e 4 (by decide) hp.1
        rw [e4]
        clear hn hp
        go_wp2_with fail
        exact ⟨fun ix => if ix = 5 then fv k else g ix, by simp [e4], hR.upd IsMap.below 5 _ (Below.refl _ _) (fun _ => rfl) (fun h => absurd h (by decide))⟩
      · intro D a w' hn hp hI
        obtain ⟨g, rfl, hR⟩ := hI
        have e4 : g 4 = .tuple #[fv k, .bool (isS k)] := hR.e 4 (by decide) hp.1
        rw [e4]
        clear hn hp
        go_wp2_with fail
        exact ⟨fun ix => if ix = 6 then .bool (isS k) else g ix, by simp [e4], hR.upd IsMap.below 6 _ (Below.refl _ _) (fun _ => rfl) (fun h => absurd h (by decide))⟩
      · intro D a w' hn hp hI
        obtain ⟨g, rfl, hR⟩ := hI
        have e5 : g 5 = fv k := hR.e 5 (by decide) hp.1
        rw [e5]
        clear hn hp
        go_wp2_with fail
        exact ⟨fun ix => if ix = 7 then fv k else g ix, by simp [e5], hR.upd IsMap.below 7 _ (Below.refl _ _) (fun _ => rfl) (fun h => absurd h (by decide))⟩
    intro D a' w' hD hI
    obtain ⟨g3, rfl, hR⟩ := hI
    have e6 : g3 6 = .bool (isS k) := hR.e 6 (by decide) (hD 6 (by decide))
    have e7 : g3 7 = fv k := hR.e 7 (by decide) (hD 7 (by decide))
    have hB2 := hR.b
    rw [e6, e7]
    simp only [List.drop_succ_cons, List.drop_zero]
    clear hD hR e6 e7
    go_wp2_with fail
    go_meet
    exact ⟨rfl, rfl, hB2⟩
  obtain ⟨rfl, rfl, hB2⟩ := hcut
  obtain ⟨X1, hX1⟩ : ∃ X, X = wc := ⟨_, rfl⟩
  subst hX1
  have d0 := kc hB2 c0
  have d1 := kc hB2 c1
  have hd1 := hd.below (bthen hB1 hB2)
  have hB := bthen hB1 hB2
  clear hB1 hB2 c0 c1 hd hq h0 h1 b0 b1
  have hzz : w.heap.size < X1.heap.size := cell_lt d0
  by_cases k1 : k = 7 ∨ k = 131 ∨ k = 137
  · have ef : fv k = .func (.func 55) #[] #[] := by simp [fv, k1]
    have es : isS k = true := by
      rcases k1 with rfl | rfl | rfl <;> rfl
    have eq : shp (k, d) = (adr d.length (d.getD 0 0)) := by simp [shp, k1]
    have hx : 0 ≤ d.getD 0 0 ∧ d.getD 0 0 ≤ 255 := By.getD hd1 0
    have hy : 0 ≤ d.getD 1 0 ∧ d.getD 1 0 ≤ 255 := By.getD hd1 1
    have hc : ∀ V, Below X1.heap.size X1 V → Calls Try.prog 55 #[.slice A d.length c] V fun e w' => e = .returned (.bool (adr d.length (d.getD 0 0))) ∧ Below V.heap.size V w' := fun V hV => (addr_any A d.length c (d.getD 0 0) V hn hx (fun hp => (hd1.below hV).at0 hp)).mono (fun e V' h => ⟨h.1, by rw [h.2]; exact Below.refl _ _⟩)
    replace hr := hr.out
    rw [eq] at hr
    rw [ef, es]
    clear ef es eq k1
    obtain ⟨q, hqq⟩ : ∃ q, (adr d.length (d.getD 0 0)) = q := ⟨_, rfl⟩
    rw [hqq] at hc hr
    replace hc := Lib.hid hc
    clear hqq
    cases q
    · have hr : false = r := by simpa using hr
      subst hr
      go_wp2_with fail
      refine (hc.out _ (Below.refl _ _)).mono ?_
      rintro e w' ⟨rfl, hb9⟩
      go_wp2_with fail
      go_ret
      exact ⟨rfl, bthen hB hb9⟩
    · have hr : decide (d.length ≤ 38) = r := by simpa using hr
      subst hr
      go_wp2_with fail
      refine (hc.out _ (Below.refl _ _)).mono ?_
      rintro e w' ⟨rfl, hb9⟩
      have d2 := kc hb9 d1
      have d3 := kc hb9 d0
      clear d1 d0
      go_wp2_with fail
      go_ret
      exact ⟨rfl, bthen hB hb9⟩
  by_cases k2 : k = 148
  · have ef : fv k = .func (.func 56) #[] #[] := by rw [k2]; simp [fv]
    have es : isS k = true := by
      rw [k2]; rfl
    have eq : shp (k, d) = (d.length == 2) := by rw [k2]; simp [shp]
    have hx : 0 ≤ d.getD 0 0 ∧ d.getD 0 0 ≤ 255 := By.getD hd1 0
    have hy : 0 ≤ d.getD 1 0 ∧ d.getD 1 0 ≤ 255 := By.getD hd1 1
    have hc : ∀ V, Below X1.heap.size X1 V → Calls Try.prog 56 #[.slice A d.length c] V fun e w' => e = .returned (.bool (d.length == 2)) ∧ Below V.heap.size V w' := fun V hV => (alert_any A d.length c V hn).mono (fun e V' h => ⟨h.1, by rw [h.2]; exact Below.refl _ _⟩)
    replace hr := hr.out
    rw [eq] at hr
    rw [ef, es]
    clear ef es eq k2
    obtain ⟨q, hqq⟩ : ∃ q, (d.length == 2) = q := ⟨_, rfl⟩
    rw [hqq] at hc hr
    replace hc := Lib.hid hc
    clear hqq
    cases q
    · have hr : false = r := by simpa using hr
      subst hr
      go_wp2_with fail
      refine (hc.out _ (Below.refl _ _)).mono ?_
      rintro e w' ⟨rfl, hb9⟩
      go_wp2_with fail
      go_ret
      exact ⟨rfl, bthen hB hb9⟩
    · have hr : decide (d.length ≤ 38) = r := by simpa using hr
      subst hr
      go_wp2_with fail
      refine (hc.out _ (Below.refl _ _)).mono ?_
      rintro e w' ⟨rfl, hb9⟩
      have d2 := kc hb9 d1
      have d3 := kc hb9 d0
      clear d1 d0
      go_wp2_with fail
      go_ret
      exact ⟨rfl, bthen hB hb9⟩
  by_cases k3 : k = 68
  · have ef : fv k = .func (.func 57) #[] #[] := by rw [k3]; simp [fv]
    have es : isS k = true := by
      rw [k3]; rfl
    have eq : shp (k, d) = (stm d.length (d.getD 0 0) (d.getD 1 0)) := by rw [k3]; simp [shp]
    have hx : 0 ≤ d.getD 0 0 ∧ d.getD 0 0 ≤ 255 := By.getD hd1 0
    have hy : 0 ≤ d.getD 1 0 ∧ d.getD 1 0 ≤ 255 := By.getD hd1 1
    have hc : ∀ V, Below X1.heap.size X1 V → Calls Try.prog 57 #[.slice A d.length c] V fun e w' => e = .returned (.bool (stm d.length (d.getD 0 0) (d.getD 1 0))) ∧ Below V.heap.size V w' := fun V hV => (stamp_any A d.length c (d.getD 0 0) (d.getD 1 0) V hn hx hy (fun hp => (hd1.below hV).at1 hp))
    replace hr := hr.out
    rw [eq] at hr
    rw [ef, es]
    clear ef es eq k3
    obtain ⟨q, hqq⟩ : ∃ q, (stm d.length (d.getD 0 0) (d.getD 1 0)) = q := ⟨_, rfl⟩
    rw [hqq] at hc hr
    replace hc := Lib.hid hc
    clear hqq
    cases q
    · have hr : false = r := by simpa using hr
      subst hr
      go_wp2_with fail
      refine (hc.out _ (Below.refl _ _)).mono ?_
      rintro e w' ⟨rfl, hb9⟩
      go_wp2_with fail
      go_ret
      exact ⟨rfl, bthen hB hb9⟩
    · have hr : decide (d.length ≤ 38) = r := by simpa using hr
      subst hr
      go_wp2_with fail
      refine (hc.out _ (Below.refl _ _)).mono ?_
      rintro e w' ⟨rfl, hb9⟩
      have d2 := kc hb9 d1
      have d3 := kc hb9 d0
      clear d1 d0
      go_wp2_with fail
      go_ret
      exact ⟨rfl, bthen hB hb9⟩
  have ef : fv k = .nilFunc := by simp [fv, k1, k2, k3]
  have es : isS k = false := by
    simp only [not_or] at k1
    simp [isS, k1, k2, k3]
  have eq : shp (k, d) = true := by simp [shp, k1, k2, k3]
  replace hr := hr.out
  rw [eq] at hr
  rw [ef, es]
  have hr : decide (d.length ≤ 38) = r := by simpa using hr
  subst hr
  clear ef es eq k1 k2 k3
  go_wp2_with fail
  go_ret
  exact ⟨rfl, hB⟩

end Go.Proofs.Ytjfnnclbfaakkaa
