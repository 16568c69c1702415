/-
  The contracts of the second writing's Find and Routed. Conditions: the options lie, and are not too many for the model.
-/
import Derived.Test.YtjfnnclbfaakkaaRouted
namespace Go.Proofs.Ytjfnnclbfaakkaa
open Go.RowKit
set_option linter.unusedVariables false
set_option linter.unusedSimpArgs false

set_option maxRecDepth 100000 in
set_option maxHeartbeats 4000000 in
theorem refFind_any (l : List Op1) (A : Option Addr) (c : Nat) (kind : Int) (w : World) (hl : Ops w A l) (hn : l.length ≤ 2 ^ 40) (hlb : ∀ o ∈ l, o.2.length ≤ 2 ^ 40) :
    Calls Try.prog 45 #[.slice A l.length c, .int .u8 kind] w fun e w' => ∃ A2 c2, e = .returned (.tuple #[.agg #[.int .u8 (fnS l kind).2.1, .slice A2 (fnS l kind).2.2.length c2], .bool (fnS l kind).1]) ∧ By w' A2 (fnS l kind).2.2 ∧ Below w.heap.size w w' := by
  obtain ⟨n, hN⟩ : ∃ n, l.length = n := ⟨_, rfl⟩
  rw [hN]
  have HN := Lib.hid hN
  have HL := Lib.hid hl
  have HLB := Lib.hid hlb
  obtain ⟨RES, hRES⟩ : ∃ r, fnS l kind = r := ⟨_, rfl⟩
  rw [hRES]
  have HRES := Lib.hid hRES
  rw [hN] at hn
  obtain ⟨X0, hX0⟩ : ∃ X0, w.alloc (Obj.cells #[Value.int IntKind.u8 0, Value.slice none 0 0] 80) = X0 := ⟨_, rfl⟩
  have hB0 : Below w.heap.size w X0 := by rw [← hX0]; exact (Below.refl _ _).alloc (Nat.le_refl _) _
  have h0 : X0.heap[w.heap.size]? = some (.cells #[.int .u8 0, .slice none 0 0] 80 (0, 0)) := by
    rw [← hX0]
    exact heap_alloc_last _ _
  have HB0 := Lib.hid hB0
  have HH0 := Lib.hid h0
  have hX := Lib.hid hX0
  clear hN hl hlb hRES hB0 h0 hX0
  go_enter Try.func45, Try.ntmps45
  go_upto_region 1 with fail
  rw [hX.out]
  go_wp2_with fail
  go_loopw [6] (fun i wr => ∃ k : Nat, k ≤ n ∧ i = .int .i64 k ∧ (∀ j, j < k → ∀ p, l[j]? = some p → p.1 ≠ kind) ∧ Below X0.heap.size X0 wr) (fun i _ => n - (intOf i).toNat)
  case atStart => exact ⟨0, by omega, rfl, fun j hj => absurd hj (by omega), Below.refl _ _⟩
  case round =>
    obtain ⟨k, hk, rfl, hmet, hb⟩ := hrel
    have HMET := Lib.hid hmet
    clear hmet
    have HB := Lib.hid (HB0.out.trans (hb.mono HB0.out.size))
    have HBX := Lib.hid hb
    have hh := blk_below hb HH0.out
    have HHR := Lib.hid hh
    have r0 := blk_cell hh 0
    have r1 := blk_cell hh 1
    simp at r0 r1
    have fr := blk_free hh 0
    have fr1 := blk_free hh 1
    have hlr := blk_lt hh
    clear hb hh
    by_cases hkl : k < n
    · obtain ⟨b, o, rfl, hbl⟩ := (HL.out.below HB.out).pos (by rw [HN.out]; omega)
      obtain ⟨⟨kd, d⟩, hx⟩ : ∃ x, l[k]? = some x := ⟨l[k]'(by rw [HN.out]; omega), List.getElem?_eq_getElem _⟩
      obtain ⟨A1, n1, x0, x1, hc1, hc1m, by1, hk0, hk1, hnil⟩ := HL.out.at hx
      simp only at x0 x1 hc1 by1 hk0 hk1
      replace x0 := kc HB.out x0
      replace x1 := kc HB.out x1
      have hbl := cell_lt x0
      replace hbl : b < wr.heap.size := hbl
      have t1 : decide ((k : Int) < n) = true := by simp; omega
      have hpos : (k : Int) < n := by omega
      have HX := Lib.hid hx
      have HB1 := Lib.hid by1
      have hdl : d.length ≤ 2 ^ 40 := HLB.out _ (List.mem_of_getElem? hx)
      have HDL := Lib.hid hdl
      clear hx by1 hnil hdl hk0 hk1
      by_cases hkk : kd = kind
      · subst hkk
        have HRR : Hid (RES = (true, (kd, d))) := by show _ = _; rw [← HRES.out]; exact fnS_some HX.out rfl HMET.out
        go_wp2_with fail
        have hres := HRR.out
        subst hres
        have hset := blk_set (blk_set HHR.out 0 (.int .u8 kd)) 1 (.slice A1 d.length n1)
        have s0 := blk_cell hset 0
        have s1 := blk_cell hset 1
        simp at s0 s1
        refine bodyPost_ret (v := .tuple #[.agg #[.int .u8 kd, .slice A1 d.length n1], .bool true]) (by simp [results, Try.results45, go_sem, s0, s1]) rfl ?_
        have hbb := (HB.out.setCell (p := ⟨w.heap.size, 0, none⟩) (Nat.le_refl _) (.int .u8 kd)).setCell (p := ⟨w.heap.size, 1, none⟩) (Nat.le_refl _) (.slice A1 d.length n1)
        exact ⟨_, _, rfl, HB1.out.below hbb, hbb⟩
      · have e1 : (kd == kind) = false := by simpa using hkk
        have HKK := Lib.hid hkk
        clear hkk
        go_wp2_with fail
        exact ⟨⟨k + 1, by omega, by go_num, fun j hj p hp => by
          by_cases hjk : j < k
          · exact HMET.out j hjk p hp
          · obtain rfl : j = k := by omega
            have := HX.out.symm.trans hp
            cases this
            exact HKK.out, HBX.out⟩, by simp [intOf]; omega⟩
    · obtain rfl : k = n := by omega
      have t1 : decide ((k : Int) < k) = false := by simp
      have HRR : Hid (RES = (false, (0, []))) := by
        show _ = _
        rw [← HRES.out]
        refine fnS_none fun i p hp => HMET.out i ?_ p hp
        have := (List.getElem?_eq_some_iff.1 hp).1
        have := HN.out
        omega
      go_wp2_with fail
      have hres := HRR.out
      subst hres
      have hset := blk_set (blk_set HHR.out 0 (.int .u8 0)) 1 (.slice none 0 0)
      have s0 := blk_cell hset 0
      have s1 := blk_cell hset 1
      simp at s0 s1
      refine bodyPost_ret (v := .tuple #[.agg #[.int .u8 0, .slice none 0 0], .bool false]) (by simp [results, Try.results45, go_sem, s0, s1]) rfl ?_
      exact ⟨none, 0, rfl, By.nil _ _, (HB.out.setCell (p := ⟨w.heap.size, 0, none⟩) (Nat.le_refl _) _).setCell (p := ⟨w.heap.size, 1, none⟩) (Nat.le_refl _) _⟩

/-- PART 2: which options route. -/
theorem grp3 {k : Int} (h : 0 ≤ k ∧ k ≤ 255) : (grp k == 3) = (k == 131 || k == 137) := by
  obtain ⟨m, rfl⟩ := Int.eq_ofNat_of_zero_le h.1
  have hm : m < 256 := by omega
  have := (by decide +kernel : ∀ m : Fin 256, (grp (m.val : Int) == 3) = ((m.val : Int) == 131 || (m.val : Int) == 137)) ⟨m, hm⟩
  exact this
set_option maxRecDepth 100000 in
set_option maxHeartbeats 4000000 in
theorem refRouted_any (l : List Op1) (A : Option Addr) (c : Nat) (w : World) (hl : Ops w A l) (hn : l.length ≤ 2 ^ 40) :
    Calls Try.prog 46 #[.slice A l.length c] w fun e w' => e = .returned (.bool (routedS l)) ∧ Below w.heap.size w w' := by
  obtain ⟨n, hN⟩ : ∃ n, l.length = n := ⟨_, rfl⟩
  rw [hN]
  have HN := Lib.hid hN
  have HL := Lib.hid hl
  obtain ⟨RES, hRES⟩ : ∃ r, routedS l = r := ⟨_, rfl⟩
  rw [hRES]
  have HRES := Lib.hid hRES
  rw [hN] at hn
  clear hN hl hRES
  go_enter Try.func46, Try.ntmps46
  go_wp2_with fail
  go_loopw [3] (fun i wr => ∃ k : Nat, k ≤ n ∧ i = .int .i64 k ∧ (∀ j, j < k → ∀ p, l[j]? = some p → (grp p.1 == 3) = false) ∧ Below w.heap.size w wr) (fun i _ => n - (intOf i).toNat)
  case atStart => exact ⟨0, by omega, rfl, fun j hj => absurd hj (by omega), Below.refl _ _⟩
  case round =>
    obtain ⟨k, hk, rfl, hmet, hb⟩ := hrel
    have HMET := Lib.hid hmet
    have HB := Lib.hid hb
    clear hmet hb
    by_cases hkl : k < n
    · obtain ⟨b, o, rfl, hbl⟩ := (HL.out.below HB.out).pos (by rw [HN.out]; omega)
      obtain ⟨⟨kd, d⟩, hx⟩ : ∃ x, l[k]? = some x := ⟨l[k]'(by rw [HN.out]; omega), List.getElem?_eq_getElem _⟩
      obtain ⟨A1, n1, x0, x1, hc1, hc1m, by1, hk0, hk1, hnil⟩ := HL.out.at hx
      simp only at x0 x1 hc1 by1 hk0 hk1
      replace x0 := kc HB.out x0
      have hbl := cell_lt x0
      replace hbl : b < wr.heap.size := hbl
      have t1 : decide ((k : Int) < n) = true := by simp; omega
      have hpos : (k : Int) < n := by omega
      have hpos0 : (0 : Int) ≤ k := by omega
      have HX := Lib.hid hx
      have HG := Lib.hid (grp3 ⟨hk0, hk1⟩)
      clear hx by1 hnil hk0 hk1 x1
      by_cases h1 : kd = 131
      · subst h1
        have hres : RES = true := by
          rw [← HRES.out]
          unfold routedS
          exact List.any_eq_true.2 ⟨_, List.mem_of_getElem? HX.out, by rw [show grp (131, d).1 = grp 131 from rfl, HG.out]; rfl⟩
        subst hres
        go_wp2_with fail
        go_ret
        exact ⟨rfl, HB.out⟩
      · by_cases h2 : kd = 137
        · subst h2
          have hres : RES = true := by
            rw [← HRES.out]
            unfold routedS
            exact List.any_eq_true.2 ⟨_, List.mem_of_getElem? HX.out, by rw [show grp (137, d).1 = grp 137 from rfl, HG.out]; rfl⟩
          subst hres
          go_wp2_with fail
          go_ret
          exact ⟨rfl, HB.out⟩
        · have e1 : (kd == 131) = false := by simpa using h1
          have e2 : (kd == 137) = false := by simpa using h2
          have HQ : Hid ((grp kd == 3) = false) := by show _ = _; rw [HG.out, e1, e2]; rfl
          clear h1 h2
          go_wp2_with fail
          exact ⟨⟨k + 1, by omega, by go_num, fun j hj p hp => by
            by_cases hjk : j < k
            · exact HMET.out j hjk p hp
            · obtain rfl : j = k := by omega
              have := HX.out.symm.trans hp
              cases this
              exact HQ.out, HB.out⟩, by simp [intOf]; omega⟩
    · obtain rfl : k = n := by omega
      have t1 : decide ((k : Int) < k) = false := by simp
      have hres : RES = false := by
        rw [← HRES.out]
        unfold routedS
        rw [List.any_eq_false]
        intro p hp
        obtain ⟨j, hj⟩ := List.getElem?_of_mem hp
        have := HMET.out j (by have := (List.getElem?_eq_some_iff.1 hj).1; have := HN.out; omega) p hj
        rw [this]
        decide
      subst hres
      go_wp2_with fail
      go_ret
      exact ⟨rfl, HB.out⟩

end Go.Proofs.Ytjfnnclbfaakkaa
