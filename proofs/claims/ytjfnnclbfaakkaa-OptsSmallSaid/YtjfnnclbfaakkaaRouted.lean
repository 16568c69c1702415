/-
  The contract of package opts' Routed. Conditions: the options lie, and are not too many for the model.
-/
import Derived.Test.YtjfnnclbfaakkaaFind
namespace Go.Proofs.Ytjfnnclbfaakkaa
open Go.RowKit
set_option linter.unusedVariables false
set_option linter.unusedSimpArgs false

theorem isRoute_any (k : Int) (v : Value) (w : World) : Calls Try.prog 48 #[.agg #[.int .u8 k, v]] w fun e w' => e = .returned (.bool (grp k == 3)) ∧ Below w.heap.size w w' := by
  have hb : Below w.heap.size w (w.alloc (Obj.cells #[.int .u8 k, v] 36)) := (Below.refl _ _).alloc (Nat.le_refl _) _
  have HB := Lib.hid hb
  clear hb
  obtain ⟨q, hq⟩ : ∃ q, (grp k == 3) = q := ⟨_, rfl⟩
  rw [hq]
  go_enter Try.func48, Try.ntmps48
  go_wp2_with fail
  refine (group_any k _).mono ?_
  rintro e V' ⟨rfl, hVV⟩
  rw [hVV]
  clear hVV
  go_wp2_with fail
  go_ret
  exact ⟨rfl, HB.out⟩

theorem routed_drop {l : List Op1} {k : Nat} (h : ∀ j, j < k → ∀ p, l[j]? = some p → (grp p.1 == 3) = false) : routedS l = routedS (l.drop k) := by
  unfold routedS
  conv => lhs; rw [← List.take_append_drop k l, List.any_append]
  have : (l.take k).any (fun o => grp o.1 == 3) = false := by
    rw [List.any_eq_false]
    intro p hp
    obtain ⟨j, hj⟩ := List.getElem?_of_mem hp
    rw [List.getElem?_take] at hj
    split at hj
    · rename_i hjk
      rw [h j hjk p hj]
      decide
    · cases hj
  rw [this, Bool.false_or]

set_option maxRecDepth 100000 in
set_option maxHeartbeats 4000000 in
theorem index_any (l : List Op1) (A : Option Addr) (c : Nat) (w : World) (hl : Ops w A l) (hn : l.length ≤ 2 ^ 40) :
    Calls Try.prog 62 #[.slice A l.length c, .func (.func 48) #[] #[]] w fun e w' => ∃ i : Int, e = .returned (.int .i64 i) ∧ decide (0 ≤ i) = routedS l ∧ Below w.heap.size w w' := by
  obtain ⟨n, hN⟩ : ∃ n, l.length = n := ⟨_, rfl⟩
  rw [hN]
  have HN := Lib.hid hN
  have HL := Lib.hid hl
  obtain ⟨RES, hRES⟩ : ∃ r, routedS l = r := ⟨_, rfl⟩
  rw [hRES]
  have HRES := Lib.hid hRES
  rw [hN] at hn
  clear hN hl hRES
  go_enter Try.func62, Try.ntmps62
  go_wp2_with fail
  go_loopw [8] (fun i wr => ∃ k : Nat, k ≤ n ∧ i = .int .i64 k ∧ (∀ j, j < k → ∀ p, l[j]? = some p → (grp p.1 == 3) = false) ∧ Below w.heap.size w wr) (fun i _ => n - (intOf i).toNat)
  case atStart => exact ⟨0, by omega, rfl, fun j hj => absurd hj (by omega), Below.refl _ _⟩
  case round =>
    obtain ⟨k, hk, rfl, hmet, hb⟩ := hrel
    have HMET := Lib.hid hmet
    have HB := Lib.hid hb
    clear hmet hb
    by_cases hkl : k < n
    · obtain ⟨b, o, rfl, hbl⟩ := (HL.out.below HB.out).pos (by rw [HN.out]; omega)
      obtain ⟨⟨kd, d⟩, hx⟩ : ∃ x, l[k]? = some x := ⟨l[k]'(by rw [HN.out]; omega), List.getElem?_eq_getElem _⟩
      obtain ⟨A1, n1, x0, x1, hc1, hc1m, by1, hk0, hk1, hnil⟩ := HL.out.at hx
      simp only at x0 x1 hc1 by1 hk0 hk1
      replace x0 := kc HB.out x0
      replace x1 := kc HB.out x1
      have hbl := cell_lt x0
      replace hbl : b < wr.heap.size := hbl
      have t1 : decide ((k : Int) < n) = true := by simp; omega
      have hpos : (k : Int) < n := by omega
      have HX := Lib.hid hx
      clear hx by1 hnil hk0 hk1
      obtain ⟨q, hq⟩ : ∃ q, (grp kd == 3) = q := ⟨_, rfl⟩
      have HQ := Lib.hid hq
      clear hq
      go_wp2_with fail
      refine (isRoute_any kd _ _).mono ?_
      rintro e Y ⟨rfl, hbY⟩
      rw [HQ.out]
      have HBY := Lib.hid (HB.out.trans (hbY.mono HB.out.size))
      clear hbY x0 x1
      cases q
      · go_wp2_with fail
        exact ⟨⟨k + 1, by omega, by go_num, fun j hj p hp => by
          by_cases hjk : j < k
          · exact HMET.out j hjk p hp
          · obtain rfl : j = k := by omega
            have := HX.out.symm.trans hp
            cases this
            exact HQ.out, HBY.out⟩, by simp [intOf]; omega⟩
      · have hres : RES = true := by
          rw [← HRES.out]
          unfold routedS
          exact List.any_eq_true.2 ⟨_, List.mem_of_getElem? HX.out, HQ.out⟩
        subst hres
        go_wp2_with fail
        go_ret
        exact ⟨k, rfl, by simp, HBY.out⟩
    · obtain rfl : k = n := by omega
      have t1 : decide ((k : Int) < k) = false := by simp
      have hres : RES = false := by
        rw [← HRES.out, routed_drop HMET.out, List.drop_of_length_le (by have := HN.out; omega)]
        rfl
      subst hres
      go_wp2_with fail
      go_ret
      exact ⟨-1, rfl, by decide, HB.out⟩
theorem containsF_any (l : List Op1) (A : Option Addr) (c : Nat) (w : World) (hl : Ops w A l) (hn : l.length ≤ 2 ^ 40) :
    Calls Try.prog 47 #[.slice A l.length c, .func (.func 48) #[] #[]] w fun e w' => e = .returned (.bool (routedS l)) ∧ Below w.heap.size w w' := by
  go_enter Try.func47, Try.ntmps47
  go_wp2_with fail
  refine (index_any l A c _ hl hn).mono ?_
  rintro e Y ⟨i, rfl, hi, hb⟩
  have HB := Lib.hid hb
  clear hb
  go_wp2_with fail
  go_ret
  exact ⟨rfl, HB.out⟩
theorem routed_any (l : List Op1) (A : Option Addr) (c : Nat) (w : World) (hl : Ops w A l) (hn : l.length ≤ 2 ^ 40) :
    Calls Try.prog 27 #[.slice A l.length c] w fun e w' => e = .returned (.bool (routedS l)) ∧ Below w.heap.size w w' := by
  go_enter Try.func27, Try.ntmps27
  go_wp2_with fail
  refine (containsF_any l A c _ hl hn).mono ?_
  rintro e Y ⟨rfl, hb⟩
  have HB := Lib.hid hb
  clear hb
  go_wp2_with fail
  go_ret
  exact ⟨rfl, HB.out⟩

end Go.Proofs.Ytjfnnclbfaakkaa
